import Derived.Test.YtfcmpfaonpnbaaaDoorMt
import Derived.Test.YtfcmpfaonpnbaaaDoorMf
import Derived.Test.YtfcmpfaonpnbaaaDoorMo
import Derived.Test.YtfcmpfaonpnbaaaDoorMn
import Derived.Test.YtfcmpfaonpnbaaaDoorMr
import Derived.Test.YtfcmpfaonpnbaaaDoorMm
import Derived.Test.YtfcmpfaonpnbaaaDoorCards
import Derived.Test.YtfcmpfaonpnbaaaDoorTie
import Derived.Test.YtfcmpfaonpnbaaaDoorMa
/- merged by wip/merge.py from: ValLawP ValLawW ValLawT ValueTurnsCard -/
/- The plain world may be just when its signature may; what is asked of it answers 0: the walk of the law. -/
namespace Go.Proofs.YtfcmpfaonpnbaaaDoor.Vl
open Go.RowKit Go.Proofs.YtfcmpfaonpnbaaaDoor.Dt Go.Proofs.YtfcmpfaonpnbaaaDoor.Sg Go.Proofs.YtfcmpfaonpnbaaaDoor.Gr

/-- memory while a law is asked: the signature's box, a world's box, all that was there -/
structure PB (w wx W : World) (xb : Nat) (u0 u1 u2 v0 v1 : Value) : Prop where
  below : Below w.heap.size w W
  belowx : Below wx.heap.size wx W
  gw : GW W w.heap.size xb u0 u1 u2 v0 v1
theorem PB.on {w wx W W' : World} {xb : Nat} {u0 u1 u2 v0 v1 : Value} (h : PB w wx W xb u0 u1 u2 v0 v1) (hb : Below W.heap.size W W') : PB w wx W' xb u0 u1 u2 v0 v1 :=
  ⟨h.below.trans (hb.mono h.below.size), h.belowx.trans (hb.mono h.belowx.size), h.gw.on hb⟩
theorem PB.five {w wx W : World} {xb : Nat} {u0 u1 u2 v0 v1 : Value} (h : PB w wx W xb u0 u1 u2 v0 v1) :
    W.cell? ⟨w.heap.size, 0, none⟩ = some u0 ∧ W.cell? ⟨w.heap.size, 1, none⟩ = some u1 ∧ W.cell? ⟨w.heap.size, 2, none⟩ = some u2 ∧ W.cell? ⟨xb, 0, none⟩ = some v0 ∧ W.cell? ⟨xb, 1, none⟩ = some v1 := ⟨h.gw.g0, h.gw.g1, h.gw.g2, h.gw.v0, h.gw.v1⟩
theorem pb_made {w w3 : World} {u0 u1 u2 : Value} (v0 v1 : Value) (t : TypeId) (hb : Below w.heap.size w w3) (p0 : w3.cell? ⟨w.heap.size, 0, none⟩ = some u0) (p1 : w3.cell? ⟨w.heap.size, 1, none⟩ = some u1) (p2 : w3.cell? ⟨w.heap.size, 2, none⟩ = some u2) (hlt : w.heap.size < w3.heap.size) :
    PB w w3 (w3.alloc (.cells #[v0, v1] t)) w3.heap.size u0 u1 u2 v0 v1 := by
  have B := (Below.refl w3.heap.size w3).alloc (Nat.le_refl _) (.cells #[v0, v1] t)
  obtain ⟨q0, q1, q2⟩ := three_cells (w' := w3.alloc (.cells #[v0, v1] t)) B hlt p0 p1 p2
  exact ⟨hb.trans (B.mono hb.size), B, q0, q1, q2, by rw [World.cell?_alloc_mark]; rfl, by rw [World.cell?_alloc_mark]; rfl, by simp; omega, by simp⟩
theorem plain_check (g : Sig) : (mayW g (plainW g) = true ∧ checkE g = 0) ∨ (mayW g (plainW g) = false ∧ checkE g = 2) := by
  rw [plain_may]
  cases h : checkB g
  · exact .inr ⟨rfl, checkE_false h⟩
  · exact .inl ⟨rfl, checkE_true h⟩
set_option maxRecDepth 100000 in
set_option maxHeartbeats 3200000 in
theorem valuePlain_all {w : World} {A1 A2 A3 : Option Addr} {c1 c2 c3 : Nat} {g : Sig} (hg : SigAt w A1 c1 A2 c2 A3 c3 g) (f : Int) (l : List Int) (A : Option Addr) (c : Nat) (hf : I64 f) (hl : Cells w A (l.map (Value.int .i64))) (hli : ∀ y ∈ l, I64 y) (_ : l.length ≤ c) (_ : c ≤ 2 ^ 63 - 1) (ht : TabOk w) :
    Calls Tryd.prog 4 #[.agg #[.slice A1 g.sorts.length c1, .slice A2 g.funs.length c2, .slice A3 g.macros.length c3], .int .i64 f, .slice A l.length c] w fun e w' => e = .returned (.bool true) ∧ Below w.heap.size w w' := by
  have HB1 := Lib.hid ((Below.refl w.heap.size w).alloc (Nat.le_refl _) (.cells #[.slice A1 g.sorts.length c1, .slice A2 g.funs.length c2, .slice A3 g.macros.length c3] 26))
  have HGr := Lib.hid (great4_any (hg.on HB1.out))
  have HW := Lib.hid (fun W (hW : Below w.heap.size w W) => wakes_any W (ht.on hW))
  have HPl := Lib.hid (fun W (h : Small g) => plain_any g (by have := h.1; omega) (by have := h.2.1; omega) W A1 A2 A3 c1 c2 g.macros.length c3)
  have HMy := Lib.hid (fun W (hW : Below w.heap.size w W) (h : Small g) B1 d1 B2 d2 hx => vmay_any (d1 := d1) (d2 := d2) (B1 := B1) (B2 := B2) (x := plainW g) (hg.on hW) hx (by have := h.1; omega) (by have := h.2.1; omega) (by have := h.2.2; omega) (by have := h.1; simp [plainW]; omega))
  have HCk := Lib.hid (fun W (hW : Below w.heap.size w W) => rcheck_any (hg.on hW))
  have HAp := Lib.hid (fun W (hW : Below w.heap.size w W) (h : Small g) (hn : l.length ≤ 10) B1 d1 B2 d2 hx => apply_any (d1 := d1) (d2 := d2) (B1 := B1) (B2 := B2) (c := c) (x := plainW g) (hg.on hW) hx (by have := h.1; omega) (by have := h.2.1; omega) (by have := h.2.2; omega) (by have := h.1; simp [plainW]; omega) f hf (hl.on hW) hli (by omega))
  have HMC := Lib.hid (plain_check g)
  have HAsk := Lib.hid (ask_cases g (plainW g) f l)
  have HV := Lib.hid (plain_apply g f l)
  obtain ⟨g0, g1, g2⟩ := sig_cells w (.slice A1 g.sorts.length c1) (.slice A2 g.funs.length c2) (.slice A3 g.macros.length c3) 26
  have hz : w.heap.size < (w.alloc (.cells #[.slice A1 g.sorts.length c1, .slice A2 g.funs.length c2, .slice A3 g.macros.length c3] 26)).heap.size := by simp
  have HC := Lib.hid (fun W hW => three_cells (w' := W) (b := w.heap.size) hW hz g0 g1 g2)
  have HZ := Lib.hid hz
  clear hg ht g0 g1 g2 hz hf hl hli
  rw [HV.out] at HAp
  unfold PlainPost at HPl
  generalize mayW g (plainW g) = mv at *
  generalize checkE g = ce at *
  generalize askE g (plainW g) f l = ae at *
  generalize (plainW g).sizes.length = m1 at *
  generalize (plainW g).funs.length = m2 at *
  generalize g.sorts.length = n1 at *
  generalize g.funs.length = n2 at *
  generalize g.macros.length = n3 at *
  generalize l.length = n at *
  go_enter Tryd.func4, Tryd.ntmps4
  go_wp2_with fail
  generalize w.alloc (.cells #[.slice A1 n1 c1, .slice A2 n2 c2, .slice A3 n3 c3] 26) = w1 at *
  refine HGr.out.mono ?_
  rintro e w2 ⟨⟨gb, rfl, hsm⟩, hb2⟩
  have HB2 := Lib.hid (HB1.out.trans (hb2.mono HB1.out.size))
  obtain ⟨q0, q1, q2⟩ := HC.out w2 hb2
  have HD2 := Lib.hid hb2
  have HSm := Lib.hid hsm
  clear hb2 hsm
  cases gb with
  | true =>
    go_wp2_with fail
    refine (HW.out w2 HB2.out).mono ?_
    rintro e w3 ⟨rfl, hb3⟩
    have HB3 := Lib.hid (HB2.out.trans (hb3.mono HB2.out.size))
    clear hb3
    go_wp2_with fail
    go_ret
    exact ⟨rfl, HB3.out⟩
  | false =>
    by_cases h10 : (10 : Int) < (n : Int)
    · have h10' := decide_eq_true h10
      go_wp2_with fail
      refine (HW.out w2 HB2.out).mono ?_
      rintro e w3 ⟨rfl, hb3⟩
      have HB3 := Lib.hid (HB2.out.trans (hb3.mono HB2.out.size))
      clear hb3
      go_wp2_with fail
      go_ret
      exact ⟨rfl, HB3.out⟩
    · have h10' := decide_eq_false h10
      have HS := Lib.hid (HSm.out rfl)
      have hcall := HPl.out w2 HS.out
      go_wp2_with fail
      refine hcall.mono ?_
      rintro e w3 ⟨B1, d1, B2, d2, rfl, hx, hb3⟩
      have HB3 := Lib.hid (HB2.out.trans (hb3.mono HB2.out.size))
      have HX := Lib.hid hx
      have HPB := Lib.hid (by
        obtain ⟨q0, q1, q2⟩ := HC.out w3 (HD2.out.trans (hb3.mono HD2.out.size))
        exact pb_made (.slice B1 m1 d1) (.slice B2 m2 d2) 30 HB3.out q0 q1 q2 (Nat.lt_of_lt_of_le HZ.out (HD2.out.trans (hb3.mono HD2.out.size)).size))
      have HMy2 := Lib.hid (fun W (hP : PB w w3 W w3.heap.size (.slice A1 n1 c1) (.slice A2 n2 c2) (.slice A3 n3 c3) (.slice B1 m1 d1) (.slice B2 m2 d2)) => HMy.out W hP.below HS.out B1 d1 B2 d2 (HX.out.on hP.belowx))
      have HAp2 := Lib.hid (fun W (hP : PB w w3 W w3.heap.size (.slice A1 n1 c1) (.slice A2 n2 c2) (.slice A3 n3 c3) (.slice B1 m1 d1) (.slice B2 m2 d2)) => HAp.out W hP.below HS.out (by omega) B1 d1 B2 d2 (HX.out.on hP.belowx))
      clear hx hb3 hcall q0 q1 q2 HMy HAp HX HC HD2 HSm HPl HGr HB1 HB2 HB3
      go_upto_region 4 with fail
      generalize hxb : w3.heap.size = xb at *
      clear hxb
      generalize w3.alloc (.cells #[.slice B1 m1 d1, .slice B2 m2 d2] 30) = wk at *
      go_cut [26] from 20 to 26 (fun v W => v = .bool false ∧ PB w w3 W xb (.slice A1 n1 c1) (.slice A2 n2 c2) (.slice A3 n3 c3) (.slice B1 m1 d1) (.slice B2 m2 d2))
      case first =>
        have K0 := Lib.hid (HPB.out.on (Below.refl wk.heap.size wk).drew)
        refine wp_region_held_drew (S := fun W => W.cell? ⟨w.heap.size, 0, none⟩ = some (.slice A1 n1 c1) ∧ W.cell? ⟨w.heap.size, 1, none⟩ = some (.slice A2 n2 c2) ∧ W.cell? ⟨w.heap.size, 2, none⟩ = some (.slice A3 n3 c3) ∧ W.cell? ⟨xb, 0, none⟩ = some (.slice B1 m1 d1) ∧ W.cell? ⟨xb, 1, none⟩ = some (.slice B2 m2 d2)) (by kernel_rfl) (K0.out.five) (fun hHeld => ?_)
        generalize hwd : wk.drew = wd at *
        clear hwd
        refine wpAnyH_take (i := 0) (oi := Oper.mk _ _ _ _ _ _) (v := ?_) rfl (by kernel_rfl) (by kernel_rfl) (by kernel_rfl) (fun _ _ _ h => h) (Or.inl ⟨by rfl, ?_⟩) (by assumption) ?_
        rotate_left
        · (intro w hSw; (try dsimp only at hSw); go_simp; try with_reducible rfl)
        try simp only [Act.put, List.setIfInBounds_toArray, List.set_cons_zero, List.set_cons_succ]
        refine wpAnyH_take (i := 1) (oi := Oper.mk _ _ _ _ _ _) (v := ?_) rfl (by kernel_rfl) (by kernel_rfl) (by kernel_rfl) (fun _ _ _ h => h) (Or.inl ⟨by rfl, ?_⟩) (by assumption) ?_
        rotate_left
        · (intro w hSw; (try dsimp only at hSw); go_simp; try with_reducible rfl)
        try simp only [Act.put, List.setIfInBounds_toArray, List.set_cons_zero, List.set_cons_succ]
        refine wpAnyH_take (i := 3) (oi := Oper.mk _ _ _ _ _ _) (v := ?_) rfl (by kernel_rfl) (by kernel_rfl) (by kernel_rfl) (fun _ _ _ h => h) (Or.inl ⟨by rfl, ?_⟩) (by assumption) ?_
        rotate_left
        · (intro w hSw; (try dsimp only at hSw); go_simp; try with_reducible rfl)
        try simp only [Act.put, List.setIfInBounds_toArray, List.set_cons_zero, List.set_cons_succ]
        refine wpAnyH_ready (rs := [2]) (by kernel_rfl) (by simp) ?_
        refine AllReadyH.cons (o := Oper.mk _ _ _ _ _ _) rfl (fun K hK => ?_) AllReadyH.nil
        go_simp
        go_wp2_with (go_at_call 12; refine (HMy2.out _ K0.out).mono ?_; rintro e w5 ⟨rfl, hb5⟩; have K5 := Lib.hid (K0.out.on hb5))
        refine hK.out _ _ (K5.out.five) (fun hHeld => ?_)
        clear hK K
        try simp only [Act.put, List.setIfInBounds_toArray, List.set_cons_zero, List.set_cons_succ]
        clear hb5
        refine wpAnyH_ready (rs := [4]) (by kernel_rfl) (by simp) ?_
        refine AllReadyH.cons (o := Oper.mk _ _ _ _ _ _) rfl (fun K hK => ?_) AllReadyH.nil
        go_simp
        go_wp2_with (go_at_call 14; refine (HCk.out _ K5.out.below).mono ?_; rintro e w6 ⟨rfl, hb6⟩; have K6 := Lib.hid (K5.out.on hb6))
        refine hK.out _ _ (K6.out.five) (fun hHeld => ?_)
        clear hK K
        try simp only [Act.put, List.setIfInBounds_toArray, List.set_cons_zero, List.set_cons_succ]
        clear hb6
        rcases HMC.out with ⟨rfl, rfl⟩ | ⟨rfl, rfl⟩
        all_goals
          refine wpAnyH_take (i := 5) (oi := Oper.mk _ _ _ _ _ _) (v := ?_) rfl (by kernel_rfl) (by kernel_rfl) (by kernel_rfl) (fun _ _ _ h => h) (Or.inl ⟨by rfl, ?_⟩) (by assumption) ?_
          rotate_left
          · (intro w hSw; (try dsimp only at hSw); go_simp; try with_reducible rfl)
          try simp only [Act.put, List.setIfInBounds_toArray, List.set_cons_zero, List.set_cons_succ]
          refine wpAnyH_take (i := 6) (oi := Oper.mk _ _ _ _ _ _) (v := ?_) rfl (by kernel_rfl) (by kernel_rfl) (by kernel_rfl) (fun _ _ _ h => h) (Or.inl ⟨by rfl, ?_⟩) (by assumption) ?_
          rotate_left
          · (intro w hSw; (try dsimp only at hSw); go_simp; try with_reducible rfl)
          try simp only [Act.put, List.setIfInBounds_toArray, List.set_cons_zero, List.set_cons_succ]
          refine wpAnyH_done (by kernel_rfl) ?_ _
          go_wp2_with fail
          go_meet
          exact ⟨rfl, K6.out⟩
      case rest =>
        obtain ⟨rfl, hk⟩ := hcut
        have HK := Lib.hid hk
        obtain ⟨q0, q1, q2, q3, q4⟩ := hk.five
        have hcall := HAp2.out wc HK.out
        clear hk
        go_wp2_with fail
        refine hcall.mono ?_
        rintro e w5 ⟨rfl, hb5⟩
        have K5 := Lib.hid (HK.out.on hb5)
        have HW5 := Lib.hid (HW.out w5 K5.out.below)
        clear hb5 hcall q0 q1 q2 q3 q4
        rcases HAsk.out with rfl | rfl | rfl
        all_goals
          go_wp2_with fail
          refine HW5.out.mono ?_
          rintro e w6 ⟨rfl, hb6⟩
          have K6 := Lib.hid (K5.out.on hb6)
          clear hb6
          go_wp2_with fail
          go_ret
          exact ⟨rfl, K6.out.below⟩
end Go.Proofs.YtfcmpfaonpnbaaaDoor.Vl
/- A row put is found again, every other stays: the walk of the law. -/
namespace Go.Proofs.YtfcmpfaonpnbaaaDoor.Vl
open Go.RowKit Go.Proofs.YtfcmpfaonpnbaaaDoor.Dt Go.Proofs.YtfcmpfaonpnbaaaDoor.Sg Go.Proofs.YtfcmpfaonpnbaaaDoor.Gr

/-- whether two questions are the same, as far as their first k arguments tell -/
def sm (f h : Int) (l m : List Int) (k : Nat) : Bool := decide (h = f) && decide (l.length = m.length) && decide (m.take k = l.take k)
theorem sm_zero (f h : Int) (l m : List Int) : sm f h l m 0 = (decide (h = f) && decide (l.length = m.length)) := by simp [sm]
theorem sm_len {f h : Int} {l m : List Int} {k : Nat} (e : sm f h l m k = true) : l.length = m.length := by
  simp [sm] at e; exact e.1.2
theorem sm_step {f h : Int} {l m : List Int} {k : Nat} (hk : k < m.length) : sm f h l m (k + 1) = (sm f h l m k && (m.getD k 0 == l.getD k 0)) := by
  unfold sm
  by_cases hl : l.length = m.length
  · have hk2 : k < l.length := by omega
    rw [List.take_succ_eq_append_getElem hk, List.take_succ_eq_append_getElem hk2, List.getD_eq_getElem?_getD, List.getD_eq_getElem?_getD, List.getElem?_eq_getElem hk, List.getElem?_eq_getElem hk2, Bool.eq_iff_iff]
    simp only [Bool.and_eq_true, decide_eq_true_eq, Option.getD_some, beq_iff_eq]
    have := List.append_inj' (s₁ := m.take k) (t₁ := [m[k]]) (s₂ := l.take k) (t₂ := [l[k]])
    constructor
    · rintro ⟨⟨h1, h2⟩, h3⟩
      have h4 := this h3 rfl
      exact ⟨⟨⟨h1, h2⟩, h4.1⟩, by simpa using h4.2⟩
    · rintro ⟨⟨⟨h1, h2⟩, h3⟩, h4⟩
      exact ⟨⟨h1, h2⟩, by rw [h3, h4]⟩
  · rw [decide_eq_false hl]; simp
theorem sm_end {f h : Int} {l m : List Int} (e : h = f ∧ m = l) : sm f h l m m.length = true := by
  obtain ⟨rfl, rfl⟩ := e
  simp [sm]
theorem ints_get {w W : World} {A : Option Addr} {l : List Int} (h : Cells w A (l.map (Value.int .i64))) (hb : Below w.heap.size w W) {k : Nat} (hk : k < l.length) : ∃ b o, A = some ⟨b, o, none⟩ ∧ W.cell? ⟨b, o + k, none⟩ = some (.int .i64 (l.getD k 0)) := by
  rcases h.on hb with h | ⟨b, o, hA, _, hc⟩
  · have := congrArg List.length h
    simp at this
    subst this
    simp at hk
  · refine ⟨b, o, hA, hc k _ ?_⟩
    rw [List.getElem?_map, List.getD_eq_getElem?_getD, List.getElem?_eq_getElem hk]
    rfl
/-- memory while a law is asked: three boxes -/
structure WB (w wx W : World) (xb yb : Nat) (u0 u1 u2 v0 v1 q0 q1 : Value) : Prop where
  pb : PB w wx W xb u0 u1 u2 v0 v1
  y0 : W.cell? ⟨yb, 0, none⟩ = some q0
  y1 : W.cell? ⟨yb, 1, none⟩ = some q1
  ly : yb < W.heap.size
theorem WB.on {w wx W W' : World} {xb yb : Nat} {u0 u1 u2 v0 v1 q0 q1 : Value} (h : WB w wx W xb yb u0 u1 u2 v0 v1 q0 q1) (hb : Below W.heap.size W W') : WB w wx W' xb yb u0 u1 u2 v0 v1 q0 q1 :=
  ⟨h.pb.on hb, ((bcell hb).1 _ _ h.ly).trans h.y0, ((bcell hb).1 _ _ h.ly).trans h.y1, Nat.lt_of_lt_of_le h.ly hb.size⟩
theorem WB.seven {w wx W : World} {xb yb : Nat} {u0 u1 u2 v0 v1 q0 q1 : Value} (h : WB w wx W xb yb u0 u1 u2 v0 v1 q0 q1) :
    W.cell? ⟨w.heap.size, 0, none⟩ = some u0 ∧ W.cell? ⟨w.heap.size, 1, none⟩ = some u1 ∧ W.cell? ⟨w.heap.size, 2, none⟩ = some u2 ∧ W.cell? ⟨xb, 0, none⟩ = some v0 ∧ W.cell? ⟨xb, 1, none⟩ = some v1 ∧ W.cell? ⟨yb, 0, none⟩ = some q0 ∧ W.cell? ⟨yb, 1, none⟩ = some q1 :=
  ⟨h.pb.gw.g0, h.pb.gw.g1, h.pb.gw.g2, h.pb.gw.v0, h.pb.gw.v1, h.y0, h.y1⟩
theorem wb_made {w w5 : World} {xb : Nat} {u0 u1 u2 v0 v1 : Value} (q0 q1 : Value) (t : TypeId) (hb : Below w.heap.size w w5) (hg : GW w5 w.heap.size xb u0 u1 u2 v0 v1) :
    WB w w5 (w5.alloc (.cells #[q0, q1] t)) xb w5.heap.size u0 u1 u2 v0 v1 q0 q1 := by
  have B := (Below.refl w5.heap.size w5).alloc (Nat.le_refl _) (.cells #[q0, q1] t)
  exact ⟨⟨hb.trans (B.mono hb.size), B, hg.on B⟩, by rw [World.cell?_alloc_mark]; rfl, by rw [World.cell?_alloc_mark]; rfl, by simp⟩
set_option maxRecDepth 100000 in
set_option maxHeartbeats 6400000 in
theorem valueWith_all {w : World} {A1 A2 A3 : Option Addr} {c1 c2 c3 : Nat} {g : Sig} (hg : SigAt w A1 c1 A2 c2 A3 c3 g) {B1 B2 : Option Addr} {d1 d2 : Nat} {x : Wrld} (hx : WrldAt w B1 d1 B2 d2 x) (f : Int) (l : List Int) (A : Option Addr) (c : Nat) (v h : Int) (m : List Int) (O : Option Addr) (co : Nat)
    (hf : I64 f) (hl : Cells w A (l.map (Value.int .i64))) (hli : ∀ y ∈ l, I64 y) (_ : l.length ≤ c) (_ : c ≤ 2 ^ 63 - 1) (hv : I64 v) (hh : I64 h) (hm : Cells w O (m.map (Value.int .i64))) (hmi : ∀ y ∈ m, I64 y) (_ : m.length ≤ co) (_ : co ≤ 2 ^ 63 - 1) (ht : TabOk w) :
    Calls Tryd.prog 3 #[.agg #[.slice A1 g.sorts.length c1, .slice A2 g.funs.length c2, .slice A3 g.macros.length c3], .agg #[.slice B1 x.sizes.length d1, .slice B2 x.funs.length d2], .int .i64 f, .slice A l.length c, .int .i64 v, .int .i64 h, .slice O m.length co] w fun e w' => e = .returned (.bool true) ∧ Below w.heap.size w w' := by
  have HB1 := Lib.hid (((Below.refl w.heap.size w).alloc (Nat.le_refl _) (.cells #[.slice A1 g.sorts.length c1, .slice A2 g.funs.length c2, .slice A3 g.macros.length c3] 26)).alloc (by simp) (.cells #[.slice B1 x.sizes.length d1, .slice B2 x.funs.length d2] 30))
  have HG1 := Lib.hid (gw_made w (.slice A1 g.sorts.length c1) (.slice A2 g.funs.length c2) (.slice A3 g.macros.length c3) (.slice B1 x.sizes.length d1) (.slice B2 x.funs.length d2) 26 30)
  have HGr := Lib.hid (fun W (hW : Below w.heap.size w W) => great4_any (hg.on hW))
  have HG9 := Lib.hid (fun W (hW : Below w.heap.size w W) => great9_any (hx.on hW))
  have HW := Lib.hid (fun W (hW : Below w.heap.size w W) => wakes_any W (ht.on hW))
  have HWt := Lib.hid (fun W (hW : Below w.heap.size w W) (hs : Small g) (hs2 : SmallW x) (hn : l.length ≤ 10) => with_any (c := c) (hg.on hW) (hx.on hW) (by have := hs.1; omega) (by have := hs.2.1; omega) (by have := hs.2.2; omega) (by have := hs2.1; omega) f hf (hl.on hW) hli (by omega) v hv)
  have HMy := Lib.hid (fun W (hW : Below w.heap.size w W) (hs : Small g) (hs2 : SmallW x) Q1 q1 Q2 q2 (hy : WrldAt W Q1 q1 Q2 q2 (withX x f l v)) => vmay_any (hg.on hW) hy (by have := hs.1; omega) (by have := hs.2.1; omega) (by have := hs.2.2; omega) (by have := hs2.1; simp [withX]; omega))
  have HAy := Lib.hid (fun W (hW : Below w.heap.size w W) (hs : Small g) (hs2 : SmallW x) (hn : l.length ≤ 10) Q1 q1 Q2 q2 (hy : WrldAt W Q1 q1 Q2 q2 (withX x f l v)) => apply_any (c := c) (hg.on hW) hy (by have := hs.1; omega) (by have := hs.2.1; omega) (by have := hs.2.2; omega) (by have := hs2.1; simp [withX]; omega) f hf (hl.on hW) hli (by omega))
  have HBy := Lib.hid (fun W (hW : Below w.heap.size w W) (hs : Small g) (hs2 : SmallW x) (hn : m.length ≤ 10) Q1 q1 Q2 q2 (hy : WrldAt W Q1 q1 Q2 q2 (withX x f l v)) => apply_any (c := co) (hg.on hW) hy (by have := hs.1; omega) (by have := hs.2.1; omega) (by have := hs.2.2; omega) (by have := hs2.1; simp [withX]; omega) h hh (hm.on hW) hmi (by omega))
  have HBx := Lib.hid (fun W (hW : Below w.heap.size w W) (hs : Small g) (hs2 : SmallW x) (hn : m.length ≤ 10) => apply_any (c := co) (hg.on hW) (hx.on hW) (by have := hs.1; omega) (by have := hs.2.1; omega) (by have := hs.2.2; omega) (by have := hs2.1; omega) h hh (hm.on hW) hmi (by omega))
  have HIl := Lib.hid (fun W (hW : Below w.heap.size w W) k (hk : k < l.length) => ints_get hl hW hk)
  have HIm := Lib.hid (fun W (hW : Below w.heap.size w W) k (hk : k < m.length) => ints_get hm hW hk)
  have HWc := Lib.hid (with_cases g x f l v)
  have HWz := Lib.hid (fun (e : withE g x f l v = 0) => And.intro (with_may e) (And.intro (with_apply e) (with_other e h m)))
  have HWW := Lib.hid (fun (e : withE g x f l v = 0) => (show withW g x f l v = withX x f l v by unfold withW; rw [if_pos e]))
  unfold WithPost at HWt
  clear hg hx ht hf hl hli hv hh hm hmi
  generalize withE g x f l v = we at *
  generalize hyy : withX x f l v = Y at *
  clear hyy
  generalize withW g x f l v = Z at *
  generalize g.sorts.length = n1 at *
  generalize g.funs.length = n2 at *
  generalize g.macros.length = n3 at *
  generalize x.sizes.length = n4 at *
  generalize x.funs.length = n5 at *
  go_enter Tryd.func3, Tryd.ntmps3
  go_wp2_with fail
  generalize (w.alloc (.cells #[.slice A1 n1 c1, .slice A2 n2 c2, .slice A3 n3 c3] 26)).alloc (.cells #[.slice B1 n4 d1, .slice B2 n5 d2] 30) = w1 at *
  refine (HGr.out w1 HB1.out).mono ?_
  rintro e w2 ⟨⟨gb, rfl, hsm⟩, hb2⟩
  have HB2 := Lib.hid (HB1.out.trans (hb2.mono HB1.out.size))
  have HG2 := Lib.hid (HG1.out.on hb2)
  have HSm := Lib.hid hsm
  obtain ⟨q0, q1, q2, q3, q4, _, _⟩ := HG2.out
  clear hb2 hsm HG1 HB1 HGr
  cases gb with
  | true =>
    go_wp2_with fail
    refine (HW.out w2 HB2.out).mono ?_
    rintro e w3 ⟨rfl, hb3⟩
    have HB3 := Lib.hid (HB2.out.trans (hb3.mono HB2.out.size))
    clear hb3
    go_wp2_with fail
    go_ret
    exact ⟨rfl, HB3.out⟩
  | false =>
    have HS := Lib.hid (HSm.out rfl)
    go_wp2_with fail
    refine (HG9.out w2 HB2.out).mono ?_
    rintro e w3 ⟨⟨gc, rfl, hsm⟩, hb3⟩
    have HB3 := Lib.hid (HB2.out.trans (hb3.mono HB2.out.size))
    have HG3 := Lib.hid (HG2.out.on hb3)
    have HSx := Lib.hid hsm
    clear hb3 hsm q0 q1 q2 q3 q4 HG2 HB2
    obtain ⟨q0, q1, q2, q3, q4, _, _⟩ := HG3.out
    cases gc with
    | true =>
      go_wp2_with fail
      refine (HW.out w3 HB3.out).mono ?_
      rintro e w4 ⟨rfl, hb4⟩
      have HB4 := Lib.hid (HB3.out.trans (hb4.mono HB3.out.size))
      clear hb4
      go_wp2_with fail
      go_ret
      exact ⟨rfl, HB4.out⟩
    | false =>
      have HS2 := Lib.hid (HSx.out rfl)
      by_cases h10 : (10 : Int) < (l.length : Int)
      · have h10' := decide_eq_true h10
        go_wp2_with fail
        refine (HW.out w3 HB3.out).mono ?_
        rintro e w4 ⟨rfl, hb4⟩
        have HB4 := Lib.hid (HB3.out.trans (hb4.mono HB3.out.size))
        clear hb4
        go_wp2_with fail
        go_ret
        exact ⟨rfl, HB4.out⟩
      · have h10' := decide_eq_false h10
        by_cases k10 : (10 : Int) < (m.length : Int)
        · have k10' := decide_eq_true k10
          go_wp2_with fail
          refine (HW.out w3 HB3.out).mono ?_
          rintro e w4 ⟨rfl, hb4⟩
          have HB4 := Lib.hid (HB3.out.trans (hb4.mono HB3.out.size))
          clear hb4
          go_wp2_with fail
          go_ret
          exact ⟨rfl, HB4.out⟩
        · have k10' := decide_eq_false k10
          have hcall := HWt.out w3 HB3.out HS.out HS2.out (by omega)
          go_wp2_with fail
          refine hcall.mono ?_
          rintro e w5 ⟨Q1, q1', Q2, q2', rfl, hz, hb5⟩
          have HB5 := Lib.hid (HB3.out.trans (hb5.mono HB3.out.size))
          have HZ := Lib.hid hz
          have HWB := Lib.hid (wb_made (.slice Q1 Z.sizes.length q1') (.slice Q2 Z.funs.length q2') 30 HB5.out (HG3.out.on hb5))
          clear hz hb5 hcall q0 q1 q2 q3 q4 HG3 HB3 HWt
          rcases HWc.out with rfl | rfl | rfl
          case inr.inl =>
            go_wp2_with fail
            have HW6 := Lib.hid (HW.out _ HWB.out.pb.below)
            generalize w5.alloc (.cells #[.slice Q1 Z.sizes.length q1', .slice Q2 Z.funs.length q2'] 30) = w6 at *
            refine HW6.out.mono ?_
            rintro e w7 ⟨rfl, hb7⟩
            have HB7 := Lib.hid (HWB.out.on hb7).pb.below
            clear hb7
            go_wp2_with fail
            go_ret
            exact ⟨rfl, HB7.out⟩
          case inr.inr =>
            go_wp2_with fail
            have HW6 := Lib.hid (HW.out _ HWB.out.pb.below)
            generalize w5.alloc (.cells #[.slice Q1 Z.sizes.length q1', .slice Q2 Z.funs.length q2'] 30) = w6 at *
            refine HW6.out.mono ?_
            rintro e w7 ⟨rfl, hb7⟩
            have HB7 := Lib.hid (HWB.out.on hb7).pb.below
            clear hb7
            go_wp2_with fail
            go_ret
            exact ⟨rfl, HB7.out⟩
          case inl =>
            have hZY := HWW.out rfl
            obtain ⟨hwm, ⟨hwa, hwv⟩, hwo, hwd⟩ := HWz.out rfl
            subst hZY
            have HOr := Lib.hid hwd
            have HAy2 := Lib.hid (fun W (hP : PB w w5 W (w.heap.size + 1) (.slice A1 n1 c1) (.slice A2 n2 c2) (.slice A3 n3 c3) (.slice B1 n4 d1) (.slice B2 n5 d2)) => HAy.out W hP.below HS.out HS2.out (by omega) Q1 q1' Q2 q2' (HZ.out.on hP.belowx))
            have HBy2 := Lib.hid (fun W (hP : PB w w5 W (w.heap.size + 1) (.slice A1 n1 c1) (.slice A2 n2 c2) (.slice A3 n3 c3) (.slice B1 n4 d1) (.slice B2 n5 d2)) => HBy.out W hP.below HS.out HS2.out (by omega) Q1 q1' Q2 q2' (HZ.out.on hP.belowx))
            have HMy2 := Lib.hid (fun W (hP : PB w w5 W (w.heap.size + 1) (.slice A1 n1 c1) (.slice A2 n2 c2) (.slice A3 n3 c3) (.slice B1 n4 d1) (.slice B2 n5 d2)) => HMy.out W hP.below HS.out HS2.out Q1 q1' Q2 q2' (HZ.out.on hP.belowx))
            have HBx2 := Lib.hid (fun W (hP : PB w w5 W (w.heap.size + 1) (.slice A1 n1 c1) (.slice A2 n2 c2) (.slice A3 n3 c3) (.slice B1 n4 d1) (.slice B2 n5 d2)) => HBx.out W hP.below HS.out HS2.out (by omega))
            rw [hwa, hwv] at HAy2
            rw [hwo] at HBy2
            rw [hwm] at HMy2
            clear HAy HBy HMy HBx hwm hwa hwv hwo hwd HZ HWW HWz HWc HS HS2 HSm HSx HG9
            generalize askE g x h m = oe at *
            generalize applyV g x h m = ov at *
            generalize applyV g Z h m = oy at *
            generalize Z.sizes.length = n6 at *
            generalize Z.funs.length = n7 at *
            have hvv : (v == v) = true := by simp
            have hvn : (v != v) = false := by simp
            obtain ⟨q0, q1, q2, q3, q4, q5, q6⟩ := HWB.out.seven
            go_wp2_with fail
            have hcall := HAy2.out _ HWB.out.pb
            generalize w5.alloc (.cells #[.slice Q1 n6 q1', .slice Q2 n7 q2'] 30) = w6 at *
            refine hcall.mono ?_
            rintro e w7 ⟨rfl, hb7⟩
            have HW7 := Lib.hid (HWB.out.on hb7)
            clear hb7 hcall q0 q1 q2 q3 q4 q5 q6 HWB
            obtain ⟨q0, q1, q2, q3, q4, q5, q6⟩ := HW7.out.seven
            go_wp2_with fail
            refine (HMy2.out _ HW7.out.pb).mono ?_
            rintro e w8 ⟨rfl, hb8⟩
            have HW8 := Lib.hid (HW7.out.on hb8)
            clear hb8 q0 q1 q2 q3 q4 q5 q6 HW7
            obtain ⟨q0, q1, q2, q3, q4, q5, q6⟩ := HW8.out.seven
            go_wp2_with fail
            refine (HBy2.out _ HW8.out.pb).mono ?_
            rintro e w9 ⟨rfl, hb9⟩
            have HW9 := Lib.hid (HW8.out.on hb9)
            clear hb9 q0 q1 q2 q3 q4 q5 q6 HW8
            obtain ⟨q0, q1, q2, q3, q4, q5, q6⟩ := HW9.out.seven
            go_wp2_with fail
            refine (HBx2.out _ HW9.out.pb).mono ?_
            rintro e w10 ⟨rfl, hb10⟩
            have HW10 := Lib.hid (HW9.out.on hb10)
            clear hb10 q0 q1 q2 q3 q4 q5 q6 HW9 HAy2 HMy2 HBy2 HBx2
            have HK10 := Lib.hid HW10.out.pb.below
            clear HW10
            go_upto_region 11 with fail
            go_cut [23] from 99 to 108 (fun u W => u = .bool (sm f h l m 0) ∧ Below w.heap.size w W)
            case first =>
              have HSZ := Lib.hid (sm_zero f h l m)
              by_cases hhf : h = f
              · have e1 : (h == f) = true := by simp [hhf]
                by_cases hlm : l.length = m.length
                · have e2 : ((l.length : Int) == (m.length : Int)) = true := by simp [hlm]
                  rw [decide_eq_true hhf, decide_eq_true hlm] at HSZ
                  go_wp2_with fail
                  go_meet
                  exact ⟨by rw [HSZ.out]; rfl, HK10.out⟩
                · have e2 : ((l.length : Int) == (m.length : Int)) = false := by simp; omega
                  rw [decide_eq_true hhf, decide_eq_false hlm] at HSZ
                  go_wp2_with fail
                  go_meet
                  exact ⟨by rw [HSZ.out]; rfl, HK10.out⟩
              · have e1 : (h == f) = false := by simp [hhf]
                rw [decide_eq_false hhf] at HSZ
                go_wp2_with fail
                go_meet
                exact ⟨by rw [HSZ.out]; rfl, HK10.out⟩
            case rest =>
              obtain ⟨rfl, hk⟩ := hcut
              have HKc := Lib.hid hk
              clear hk HK10
              go_wp2_with fail
              go_loopw [23, 111] (fun s k' wr => ∃ k : Nat, k ≤ m.length ∧ s = .bool (sm f h l m k) ∧ k' = .int .i64 k ∧ Below w.heap.size w wr) (fun _ k' _ => m.length - (intOf k').toNat)
              case atStart => exact ⟨0, Nat.zero_le _, rfl, rfl, HKc.out⟩
              case round =>
                obtain ⟨k, hk, rfl, rfl, hb⟩ := hrel
                have HB := Lib.hid hb
                clear hb HKc
                by_cases hlt : k < m.length
                · have hlt2 : (k : Int) < (m.length : Int) := by omega
                  have hst := sm_step (f := f) (h := h) (l := l) (m := m) hlt
                  have hln := sm_len (f := f) (h := h) (l := l) (m := m) (k := k)
                  generalize sm f h l m k = sk at *
                  cases sk with
                  | false =>
                    have HN := Lib.hid hst
                    clear hst hln
                    go_wp2_with fail
                    refine wp_region_held_drew (S := fun _ => True) (by kernel_rfl) (trivial) (fun hHeld => ?_)
                    refine wpAnyH_take (i := 0) (oi := Oper.mk _ _ _ _ _ _) (v := ?_) rfl (by kernel_rfl) (by kernel_rfl) (by kernel_rfl) (fun _ _ _ h => h) (Or.inl ⟨by rfl, ?_⟩) (by assumption) ?_
                    rotate_left
                    · (intro w hSw; (try dsimp only at hSw); go_simp; try with_reducible rfl)
                    try simp only [Act.put, List.setIfInBounds_toArray, List.set_cons_zero, List.set_cons_succ]
                    refine wpAnyH_take (i := 1) (oi := Oper.mk _ _ _ _ _ _) (v := ?_) rfl (by kernel_rfl) (by kernel_rfl) (by kernel_rfl) (fun _ _ _ h => h) (Or.inl ⟨by rfl, ?_⟩) (by assumption) ?_
                    rotate_left
                    · (intro w hSw; (try dsimp only at hSw); go_simp; try with_reducible rfl)
                    try simp only [Act.put, List.setIfInBounds_toArray, List.set_cons_zero, List.set_cons_succ]
                    refine wpAnyH_take (i := 2) (oi := Oper.mk _ _ _ _ _ _) (v := undef) rfl (by kernel_rfl) (by kernel_rfl) (by kernel_rfl) (fun _ _ _ h => h) (Or.inr ⟨by rfl, rfl⟩) (by assumption) ?_
                    try simp only [Act.put, List.setIfInBounds_toArray, List.set_cons_zero, List.set_cons_succ]
                    refine wpAnyH_take (i := 3) (oi := Oper.mk _ _ _ _ _ _) (v := undef) rfl (by kernel_rfl) (by kernel_rfl) (by kernel_rfl) (fun _ _ _ h => h) (Or.inr ⟨by rfl, rfl⟩) (by assumption) ?_
                    try simp only [Act.put, List.setIfInBounds_toArray, List.set_cons_zero, List.set_cons_succ]
                    refine wpAnyH_take (i := 4) (oi := Oper.mk _ _ _ _ _ _) (v := undef) rfl (by kernel_rfl) (by kernel_rfl) (by kernel_rfl) (fun _ _ _ h => h) (Or.inr ⟨by rfl, rfl⟩) (by assumption) ?_
                    try simp only [Act.put, List.setIfInBounds_toArray, List.set_cons_zero, List.set_cons_succ]
                    refine wpAnyH_take (i := 5) (oi := Oper.mk _ _ _ _ _ _) (v := undef) rfl (by kernel_rfl) (by kernel_rfl) (by kernel_rfl) (fun _ _ _ h => h) (Or.inr ⟨by rfl, rfl⟩) (by assumption) ?_
                    try simp only [Act.put, List.setIfInBounds_toArray, List.set_cons_zero, List.set_cons_succ]
                    refine wpAnyH_take (i := 6) (oi := Oper.mk _ _ _ _ _ _) (v := undef) rfl (by kernel_rfl) (by kernel_rfl) (by kernel_rfl) (fun _ _ _ h => h) (Or.inr ⟨by rfl, rfl⟩) (by assumption) ?_
                    try simp only [Act.put, List.setIfInBounds_toArray, List.set_cons_zero, List.set_cons_succ]
                    refine wpAnyH_take (i := 7) (oi := Oper.mk _ _ _ _ _ _) (v := undef) rfl (by kernel_rfl) (by kernel_rfl) (by kernel_rfl) (fun _ _ _ h => h) (Or.inr ⟨by rfl, rfl⟩) (by assumption) ?_
                    try simp only [Act.put, List.setIfInBounds_toArray, List.set_cons_zero, List.set_cons_succ]
                    refine wpAnyH_take (i := 8) (oi := Oper.mk _ _ _ _ _ _) (v := undef) rfl (by kernel_rfl) (by kernel_rfl) (by kernel_rfl) (fun _ _ _ h => h) (Or.inr ⟨by rfl, rfl⟩) (by assumption) ?_
                    try simp only [Act.put, List.setIfInBounds_toArray, List.set_cons_zero, List.set_cons_succ]
                    refine wpAnyH_take (i := 9) (oi := Oper.mk _ _ _ _ _ _) (v := undef) rfl (by kernel_rfl) (by kernel_rfl) (by kernel_rfl) (fun _ _ _ h => h) (Or.inr ⟨by rfl, rfl⟩) (by assumption) ?_
                    try simp only [Act.put, List.setIfInBounds_toArray, List.set_cons_zero, List.set_cons_succ]
                    refine wpAnyH_take (i := 10) (oi := Oper.mk _ _ _ _ _ _) (v := undef) rfl (by kernel_rfl) (by kernel_rfl) (by kernel_rfl) (fun _ _ _ h => h) (Or.inr ⟨by rfl, rfl⟩) (by assumption) ?_
                    try simp only [Act.put, List.setIfInBounds_toArray, List.set_cons_zero, List.set_cons_succ]
                    refine wpAnyH_take (i := 11) (oi := Oper.mk _ _ _ _ _ _) (v := ?_) rfl (by kernel_rfl) (by kernel_rfl) (by kernel_rfl) (fun _ _ _ h => h) (Or.inl ⟨by rfl, ?_⟩) (by assumption) ?_
                    rotate_left
                    · (intro w hSw; (try dsimp only at hSw); go_simp; try with_reducible rfl)
                    try simp only [Act.put, List.setIfInBounds_toArray, List.set_cons_zero, List.set_cons_succ]
                    refine wpAnyH_take (i := 12) (oi := Oper.mk _ _ _ _ _ _) (v := ?_) rfl (by kernel_rfl) (by kernel_rfl) (by kernel_rfl) (fun _ _ _ h => h) (Or.inl ⟨by rfl, ?_⟩) (by assumption) ?_
                    rotate_left
                    · (intro w hSw; (try dsimp only at hSw); go_simp; try with_reducible rfl)
                    try simp only [Act.put, List.setIfInBounds_toArray, List.set_cons_zero, List.set_cons_succ]
                    refine wpAnyH_done (by kernel_rfl) ?_ _
                    go_wp2_with fail
                    go_roundw
                    case rel => exact ⟨k + 1, by omega, by rw [HN.out]; rfl, by go_num, HB.out.drew⟩
                    case measure => simp [intOf]; omega
                  | true =>
                    have hlm := hln rfl
                    have hlt3 : k < l.length := by omega
                    have hlt4 : (k : Int) < (l.length : Int) := by omega
                    obtain ⟨b1, o1, rfl, p1⟩ := HIm.out wr.drew HB.out.drew k hlt
                    obtain ⟨b2, o2, rfl, p2⟩ := HIl.out wr.drew HB.out.drew k hlt3
                    generalize m.getD k 0 = mk at hst p1
                    generalize l.getD k 0 = lk at hst p2
                    have HN := Lib.hid hst
                    clear hst hln
                    go_wp2_with fail
                    refine wp_region_held_drew (S := fun W => W.cell? ⟨b1, o1 + k, none⟩ = some (.int .i64 mk) ∧ W.cell? ⟨b2, o2 + k, none⟩ = some (.int .i64 lk)) (by kernel_rfl) (⟨p1, p2⟩) (fun hHeld => ?_)
                    refine wpAnyH_take (i := 0) (oi := Oper.mk _ _ _ _ _ _) (v := ?_) rfl (by kernel_rfl) (by kernel_rfl) (by kernel_rfl) (fun _ _ _ h => h) (Or.inl ⟨by rfl, ?_⟩) (by assumption) ?_
                    rotate_left
                    · (intro w hSw; (try dsimp only at hSw); go_simp; try with_reducible rfl)
                    try simp only [Act.put, List.setIfInBounds_toArray, List.set_cons_zero, List.set_cons_succ]
                    refine wpAnyH_take (i := 1) (oi := Oper.mk _ _ _ _ _ _) (v := ?_) rfl (by kernel_rfl) (by kernel_rfl) (by kernel_rfl) (fun _ _ _ h => h) (Or.inl ⟨by rfl, ?_⟩) (by assumption) ?_
                    rotate_left
                    · (intro w hSw; (try dsimp only at hSw); go_simp; try with_reducible rfl)
                    try simp only [Act.put, List.setIfInBounds_toArray, List.set_cons_zero, List.set_cons_succ]
                    refine wpAnyH_take (i := 2) (oi := Oper.mk _ _ _ _ _ _) (v := ?_) rfl (by kernel_rfl) (by kernel_rfl) (by kernel_rfl) (fun _ _ _ h => h) (Or.inl ⟨by rfl, ?_⟩) (by assumption) ?_
                    rotate_left
                    · (intro w hSw; (try dsimp only at hSw); go_simp; try with_reducible rfl)
                    try simp only [Act.put, List.setIfInBounds_toArray, List.set_cons_zero, List.set_cons_succ]
                    refine wpAnyH_take (i := 3) (oi := Oper.mk _ _ _ _ _ _) (v := ?_) rfl (by kernel_rfl) (by kernel_rfl) (by kernel_rfl) (fun _ _ _ h => h) (Or.inl ⟨by rfl, ?_⟩) (by assumption) ?_
                    rotate_left
                    · (intro w hSw; (try dsimp only at hSw); go_simp; try with_reducible rfl)
                    try simp only [Act.put, List.setIfInBounds_toArray, List.set_cons_zero, List.set_cons_succ]
                    refine wpAnyH_take (i := 4) (oi := Oper.mk _ _ _ _ _ _) (v := ?_) rfl (by kernel_rfl) (by kernel_rfl) (by kernel_rfl) (fun _ _ _ h => h) (Or.inl ⟨by rfl, ?_⟩) (by assumption) ?_
                    rotate_left
                    · (intro w hSw; (try dsimp only at hSw); go_simp; try with_reducible rfl)
                    try simp only [Act.put, List.setIfInBounds_toArray, List.set_cons_zero, List.set_cons_succ]
                    refine wpAnyH_take (i := 5) (oi := Oper.mk _ _ _ _ _ _) (v := ?_) rfl (by kernel_rfl) (by kernel_rfl) (by kernel_rfl) (fun _ _ _ h => h) (Or.inl ⟨by rfl, ?_⟩) (by assumption) ?_
                    rotate_left
                    · (intro w hSw; (try dsimp only at hSw); go_simp; try with_reducible rfl)
                    try simp only [Act.put, List.setIfInBounds_toArray, List.set_cons_zero, List.set_cons_succ]
                    refine wpAnyH_take (i := 6) (oi := Oper.mk _ _ _ _ _ _) (v := ?_) rfl (by kernel_rfl) (by kernel_rfl) (by kernel_rfl) (fun _ _ _ h => h) (Or.inl ⟨by rfl, ?_⟩) (by assumption) ?_
                    rotate_left
                    · (intro w hSw; (try dsimp only at hSw); go_simp; try with_reducible rfl)
                    try simp only [Act.put, List.setIfInBounds_toArray, List.set_cons_zero, List.set_cons_succ]
                    refine wpAnyH_take (i := 7) (oi := Oper.mk _ _ _ _ _ _) (v := ?_) rfl (by kernel_rfl) (by kernel_rfl) (by kernel_rfl) (fun _ _ _ h => h) (Or.inl ⟨by rfl, ?_⟩) (by assumption) ?_
                    rotate_left
                    · (intro w hSw; (try dsimp only at hSw); go_simp; try with_reducible rfl)
                    try simp only [Act.put, List.setIfInBounds_toArray, List.set_cons_zero, List.set_cons_succ]
                    refine wpAnyH_take (i := 8) (oi := Oper.mk _ _ _ _ _ _) (v := ?_) rfl (by kernel_rfl) (by kernel_rfl) (by kernel_rfl) (fun _ _ _ h => h) (Or.inl ⟨by rfl, ?_⟩) (by assumption) ?_
                    rotate_left
                    · (intro w hSw; (try dsimp only at hSw); go_simp; try with_reducible rfl)
                    try simp only [Act.put, List.setIfInBounds_toArray, List.set_cons_zero, List.set_cons_succ]
                    refine wpAnyH_take (i := 9) (oi := Oper.mk _ _ _ _ _ _) (v := ?_) rfl (by kernel_rfl) (by kernel_rfl) (by kernel_rfl) (fun _ _ _ h => h) (Or.inl ⟨by rfl, ?_⟩) (by assumption) ?_
                    rotate_left
                    · (intro w hSw; (try dsimp only at hSw); go_simp; try with_reducible rfl)
                    try simp only [Act.put, List.setIfInBounds_toArray, List.set_cons_zero, List.set_cons_succ]
                    refine wpAnyH_take (i := 10) (oi := Oper.mk _ _ _ _ _ _) (v := ?_) rfl (by kernel_rfl) (by kernel_rfl) (by kernel_rfl) (fun _ _ _ h => h) (Or.inl ⟨by rfl, ?_⟩) (by assumption) ?_
                    rotate_left
                    · (intro w hSw; (try dsimp only at hSw); go_simp; try with_reducible rfl)
                    try simp only [Act.put, List.setIfInBounds_toArray, List.set_cons_zero, List.set_cons_succ]
                    refine wpAnyH_take (i := 11) (oi := Oper.mk _ _ _ _ _ _) (v := ?_) rfl (by kernel_rfl) (by kernel_rfl) (by kernel_rfl) (fun _ _ _ h => h) (Or.inl ⟨by rfl, ?_⟩) (by assumption) ?_
                    rotate_left
                    · (intro w hSw; (try dsimp only at hSw); go_simp; try with_reducible rfl)
                    try simp only [Act.put, List.setIfInBounds_toArray, List.set_cons_zero, List.set_cons_succ]
                    refine wpAnyH_take (i := 12) (oi := Oper.mk _ _ _ _ _ _) (v := ?_) rfl (by kernel_rfl) (by kernel_rfl) (by kernel_rfl) (fun _ _ _ h => h) (Or.inl ⟨by rfl, ?_⟩) (by assumption) ?_
                    rotate_left
                    · (intro w hSw; (try dsimp only at hSw); go_simp; try with_reducible rfl)
                    try simp only [Act.put, List.setIfInBounds_toArray, List.set_cons_zero, List.set_cons_succ]
                    refine wpAnyH_done (by kernel_rfl) ?_ _
                    go_wp2_with fail
                    go_roundw
                    case rel => exact ⟨k + 1, by omega, by rw [HN.out]; rfl, by go_num, HB.out.drew⟩
                    case measure => simp [intOf]; omega
                · obtain rfl : k = m.length := by omega
                  have HF := Lib.hid (show sm f h l m m.length = true ∨ oy = ov from HOr.out.imp sm_end id)
                  have hoe : (oe == oe) = true := by simp
                  have hov : (ov == ov) = true := by simp
                  have HWk := Lib.hid (HW.out wr HB.out)
                  generalize sm f h l m m.length = sf at *
                  cases sf with
                  | true =>
                    go_wp2_with fail
                    refine HWk.out.mono ?_
                    rintro e w11 ⟨rfl, hb11⟩
                    have HB11 := Lib.hid (HB.out.trans (hb11.mono HB.out.size))
                    clear hb11
                    go_wp2_with fail
                    go_ret
                    exact ⟨rfl, HB11.out⟩
                  | false =>
                    obtain rfl : oy = ov := HF.out.resolve_left (by simp)
                    go_wp2_with fail
                    refine HWk.out.mono ?_
                    rintro e w11 ⟨rfl, hb11⟩
                    have HB11 := Lib.hid (HB.out.trans (hb11.mono HB.out.size))
                    clear hb11
                    go_wp2_with fail
                    go_ret
                    exact ⟨rfl, HB11.out⟩
end Go.Proofs.YtfcmpfaonpnbaaaDoor.Vl
/- Two rows put in either order: the walk of the law. -/
namespace Go.Proofs.YtfcmpfaonpnbaaaDoor.Vl
open Go.RowKit Go.Proofs.YtfcmpfaonpnbaaaDoor.Dt Go.Proofs.YtfcmpfaonpnbaaaDoor.Sg Go.Proofs.YtfcmpfaonpnbaaaDoor.Gr

theorem sm_not {f h : Int} {l m : List Int} (e : sm f h l m m.length = false) : ¬ (f = h ∧ l = m) := fun ⟨e1, e2⟩ => by
  rw [sm_end ⟨e1.symm, e2.symm⟩] at e
  cases e
theorem withW_zero {g : Sig} {x : Wrld} {f : Int} {l : List Int} {v : Int} (e : withE g x f l v = 0) : withW g x f l v = withX x f l v := by unfold withW; rw [if_pos e]
theorem withX_sizes (x : Wrld) (f : Int) (l : List Int) (v : Int) : (withX x f l v).sizes = x.sizes := rfl
theorem withX_funs (x : Wrld) (f : Int) (l : List Int) (v : Int) : (withX x f l v).funs.length = x.funs.length := by simp [withX]
theorem int_beq_swap (a b : Int) : (a == b) = (b == a) := by
  rw [Bool.eq_iff_iff, beq_iff_eq, beq_iff_eq]
  exact eq_comm
/-- a world's box -/
structure YB (W : World) (yb : Nat) (q0 q1 : Value) : Prop where
  y0 : W.cell? ⟨yb, 0, none⟩ = some q0
  y1 : W.cell? ⟨yb, 1, none⟩ = some q1
  ly : yb < W.heap.size
theorem YB.on {W W' : World} {yb : Nat} {q0 q1 : Value} (h : YB W yb q0 q1) (hb : Below W.heap.size W W') : YB W' yb q0 q1 :=
  ⟨((bcell hb).1 _ _ h.ly).trans h.y0, ((bcell hb).1 _ _ h.ly).trans h.y1, Nat.lt_of_lt_of_le h.ly hb.size⟩
theorem yb_made (W : World) (q0 q1 : Value) (t : TypeId) : YB (W.alloc (.cells #[q0, q1] t)) W.heap.size q0 q1 :=
  ⟨by rw [World.cell?_alloc_mark]; rfl, by rw [World.cell?_alloc_mark]; rfl, by simp⟩
/-- memory while the two questions are asked: the signature's box, two worlds' boxes, both lists' box, and what lies behind them -/
structure TW (w W : World) (mb nb lb : Nat) (u0 u1 u2 m0 m1 k0 k1 l0 l1 : Value) (S1 : Option Addr) (s1 : Nat) (S2 : Option Addr) (s2 : Nat) (V : Wrld) (T1 : Option Addr) (a1 : Nat) (T2 : Option Addr) (a2 : Nat) (X : Wrld) : Prop where
  below : Below w.heap.size w W
  g0 : W.cell? ⟨w.heap.size, 0, none⟩ = some u0
  g1 : W.cell? ⟨w.heap.size, 1, none⟩ = some u1
  g2 : W.cell? ⟨w.heap.size, 2, none⟩ = some u2
  lg : w.heap.size < W.heap.size
  m : YB W mb m0 m1
  n : YB W nb k0 k1
  l : YB W lb l0 l1
  mw : WrldAt W S1 s1 S2 s2 V
  nw : WrldAt W T1 a1 T2 a2 X
theorem TW.on {w W W' : World} {mb nb lb : Nat} {u0 u1 u2 m0 m1 k0 k1 l0 l1 : Value} {S1 : Option Addr} {s1 : Nat} {S2 : Option Addr} {s2 : Nat} {V : Wrld} {T1 : Option Addr} {a1 : Nat} {T2 : Option Addr} {a2 : Nat} {X : Wrld}
    (h : TW w W mb nb lb u0 u1 u2 m0 m1 k0 k1 l0 l1 S1 s1 S2 s2 V T1 a1 T2 a2 X) (hb : Below W.heap.size W W') : TW w W' mb nb lb u0 u1 u2 m0 m1 k0 k1 l0 l1 S1 s1 S2 s2 V T1 a1 T2 a2 X :=
  ⟨h.below.trans (hb.mono h.below.size), ((bcell hb).1 _ _ h.lg).trans h.g0, ((bcell hb).1 _ _ h.lg).trans h.g1, ((bcell hb).1 _ _ h.lg).trans h.g2, Nat.lt_of_lt_of_le h.lg hb.size, h.m.on hb, h.n.on hb, h.l.on hb, h.mw.on hb, h.nw.on hb⟩
set_option maxRecDepth 100000 in
set_option maxHeartbeats 12800000 in
theorem valueTurns_all {w : World} {A1 A2 A3 : Option Addr} {c1 c2 c3 : Nat} {g : Sig} (hg : SigAt w A1 c1 A2 c2 A3 c3 g) {B1 B2 : Option Addr} {d1 d2 : Nat} {x : Wrld} (hx : WrldAt w B1 d1 B2 d2 x) (f : Int) (l : List Int) (A : Option Addr) (c : Nat) (v h : Int) (m : List Int) (O : Option Addr) (co : Nat) (u : Int)
    (hf : I64 f) (hl : Cells w A (l.map (Value.int .i64))) (hli : ∀ y ∈ l, I64 y) (_ : l.length ≤ c) (_ : c ≤ 2 ^ 63 - 1) (hv : I64 v) (hh : I64 h) (hm : Cells w O (m.map (Value.int .i64))) (hmi : ∀ y ∈ m, I64 y) (_ : m.length ≤ co) (_ : co ≤ 2 ^ 63 - 1) (hu : I64 u) (ht : TabOk w) :
    Calls Tryd.prog 6 #[.agg #[.slice A1 g.sorts.length c1, .slice A2 g.funs.length c2, .slice A3 g.macros.length c3], .agg #[.slice B1 x.sizes.length d1, .slice B2 x.funs.length d2], .int .i64 f, .slice A l.length c, .int .i64 v, .int .i64 h, .slice O m.length co, .int .i64 u] w fun e w' => e = .returned (.bool true) ∧ Below w.heap.size w w' := by
  have HB1 := Lib.hid (((Below.refl w.heap.size w).alloc (Nat.le_refl _) (.cells #[.slice A1 g.sorts.length c1, .slice A2 g.funs.length c2, .slice A3 g.macros.length c3] 26)).alloc (by simp) (.cells #[.slice B1 x.sizes.length d1, .slice B2 x.funs.length d2] 30))
  have HG1 := Lib.hid (gw_made w (.slice A1 g.sorts.length c1) (.slice A2 g.funs.length c2) (.slice A3 g.macros.length c3) (.slice B1 x.sizes.length d1) (.slice B2 x.funs.length d2) 26 30)
  have HGr := Lib.hid (fun W (hW : Below w.heap.size w W) => great4_any (hg.on hW))
  have HG9 := Lib.hid (fun W (hW : Below w.heap.size w W) => great9_any (hx.on hW))
  have HW := Lib.hid (fun W (hW : Below w.heap.size w W) => wakes_any W (ht.on hW))
  have HWf := Lib.hid (fun W (hW : Below w.heap.size w W) (hs : Small g) (hn : l.length ≤ 10) X D1 e1 D2 e2 (hX : WrldAt W D1 e1 D2 e2 X) (hs2 : X.sizes.length ≤ 10) => with_any (c := c) (hg.on hW) hX (by have := hs.1; omega) (by have := hs.2.1; omega) (by have := hs.2.2; omega) (by omega) f hf (hl.on hW) hli (by omega) v hv)
  have HWh := Lib.hid (fun W (hW : Below w.heap.size w W) (hs : Small g) (hn : m.length ≤ 10) X D1 e1 D2 e2 (hX : WrldAt W D1 e1 D2 e2 X) (hs2 : X.sizes.length ≤ 10) => with_any (c := co) (hg.on hW) hX (by have := hs.1; omega) (by have := hs.2.1; omega) (by have := hs.2.2; omega) (by omega) h hh (hm.on hW) hmi (by omega) u hu)
  have HMy := Lib.hid (fun W (hW : Below w.heap.size w W) (hs : Small g) X D1 e1 D2 e2 (hX : WrldAt W D1 e1 D2 e2 X) (hs2 : X.sizes.length ≤ 10) => vmay_any (hg.on hW) hX (by have := hs.1; omega) (by have := hs.2.1; omega) (by have := hs.2.2; omega) (by omega))
  have HAf := Lib.hid (fun W (hW : Below w.heap.size w W) (hs : Small g) (hn : l.length ≤ 10) X D1 e1 D2 e2 (hX : WrldAt W D1 e1 D2 e2 X) (hs2 : X.sizes.length ≤ 10) => apply_any (c := c) (hg.on hW) hX (by have := hs.1; omega) (by have := hs.2.1; omega) (by have := hs.2.2; omega) (by omega) f hf (hl.on hW) hli (by omega))
  have HAh := Lib.hid (fun W (hW : Below w.heap.size w W) (hs : Small g) (hn : m.length ≤ 10) X D1 e1 D2 e2 (hX : WrldAt W D1 e1 D2 e2 X) (hs2 : X.sizes.length ≤ 10) => apply_any (c := co) (hg.on hW) hX (by have := hs.1; omega) (by have := hs.2.1; omega) (by have := hs.2.2; omega) (by omega) h hh (hm.on hW) hmi (by omega))
  have HX := Lib.hid (fun W (hW : Below w.heap.size w W) => hx.on hW)
  have HIl := Lib.hid (fun W (hW : Below w.heap.size w W) k (hk : k < l.length) => ints_get hl hW hk)
  have HIm := Lib.hid (fun W (hW : Below w.heap.size w W) k (hk : k < m.length) => ints_get hm hW hk)
  have HWfx := Lib.hid (fun W (hW : Below w.heap.size w W) (hs : Small g) (hn : l.length ≤ 10) (hs2 : SmallW x) => HWf.out W hW hs hn x B1 d1 B2 d2 (HX.out W hW) hs2.1)
  have HWhx := Lib.hid (fun W (hW : Below w.heap.size w W) (hs : Small g) (hn : m.length ≤ 10) (hs2 : SmallW x) => HWh.out W hW hs hn x B1 d1 B2 d2 (HX.out W hW) hs2.1)
  unfold WithPost at HWf HWh HWfx HWhx
  clear hg hx ht hf hl hli hv hh hm hmi hu
  generalize hn1 : g.sorts.length = n1 at *
  generalize hn2 : g.funs.length = n2 at *
  generalize hn3 : g.macros.length = n3 at *
  generalize hn4 : x.sizes.length = n4 at *
  generalize hn5 : x.funs.length = n5 at *
  clear hn1 hn2 hn3 hn4 hn5
  go_enter Tryd.func6, Tryd.ntmps6
  go_wp2_with fail
  generalize (w.alloc (.cells #[.slice A1 n1 c1, .slice A2 n2 c2, .slice A3 n3 c3] 26)).alloc (.cells #[.slice B1 n4 d1, .slice B2 n5 d2] 30) = w1 at *
  refine (HGr.out w1 HB1.out).mono ?_
  rintro e w2 ⟨⟨gb, rfl, hsm⟩, hb2⟩
  have HB2 := Lib.hid (HB1.out.trans (hb2.mono HB1.out.size))
  have HG2 := Lib.hid (HG1.out.on hb2)
  have HSm := Lib.hid hsm
  obtain ⟨q0, q1, q2, q3, q4, _, _⟩ := HG2.out
  clear hb2 hsm HG1 HB1 HGr
  cases gb with
  | true =>
    go_wp2_with fail
    refine (HW.out w2 HB2.out).mono ?_
    rintro e w3 ⟨rfl, hb3⟩
    have HB3 := Lib.hid (HB2.out.trans (hb3.mono HB2.out.size))
    clear hb3
    go_wp2_with fail
    go_ret
    exact ⟨rfl, HB3.out⟩
  | false =>
    have HS := Lib.hid (HSm.out rfl)
    go_wp2_with fail
    refine (HG9.out w2 HB2.out).mono ?_
    rintro e w3 ⟨⟨gc, rfl, hsm⟩, hb3⟩
    have HB3 := Lib.hid (HB2.out.trans (hb3.mono HB2.out.size))
    have HG3 := Lib.hid (HG2.out.on hb3)
    have HSx := Lib.hid hsm
    clear hb3 hsm q0 q1 q2 q3 q4 HG2 HB2
    obtain ⟨q0, q1, q2, q3, q4, _, _⟩ := HG3.out
    cases gc with
    | true =>
      go_wp2_with fail
      refine (HW.out w3 HB3.out).mono ?_
      rintro e w4 ⟨rfl, hb4⟩
      have HB4 := Lib.hid (HB3.out.trans (hb4.mono HB3.out.size))
      clear hb4
      go_wp2_with fail
      go_ret
      exact ⟨rfl, HB4.out⟩
    | false =>
      have HS2 := Lib.hid (HSx.out rfl)
      by_cases h10 : (10 : Int) < (l.length : Int)
      · have h10' := decide_eq_true h10
        go_wp2_with fail
        refine (HW.out w3 HB3.out).mono ?_
        rintro e w4 ⟨rfl, hb4⟩
        have HB4 := Lib.hid (HB3.out.trans (hb4.mono HB3.out.size))
        clear hb4
        go_wp2_with fail
        go_ret
        exact ⟨rfl, HB4.out⟩
      · have h10' := decide_eq_false h10
        by_cases k10 : (10 : Int) < (m.length : Int)
        · have k10' := decide_eq_true k10
          go_wp2_with fail
          refine (HW.out w3 HB3.out).mono ?_
          rintro e w4 ⟨rfl, hb4⟩
          have HB4 := Lib.hid (HB3.out.trans (hb4.mono HB3.out.size))
          clear hb4
          go_wp2_with fail
          go_ret
          exact ⟨rfl, HB4.out⟩
        · have k10' := decide_eq_false k10
          clear q0 q1 q2 q3 q4 HSm HSx HG9
          go_upto_region 3 with fail
          go_cut [17] from 48 to 57 (fun t W => t = .bool (sm f h l m 0) ∧ Below w3.heap.size w3 W)
          case first =>
            have HSZ := Lib.hid (sm_zero f h l m)
            have HR := Lib.hid (Below.refl w3.heap.size w3)
            by_cases hhf : h = f
            · have e1 : (f == h) = true := by simp [hhf]
              by_cases hlm : l.length = m.length
              · have e2 : ((l.length : Int) == (m.length : Int)) = true := by simp [hlm]
                rw [decide_eq_true hhf, decide_eq_true hlm] at HSZ
                go_wp2_with fail
                go_meet
                exact ⟨by rw [HSZ.out]; rfl, HR.out⟩
              · have e2 : ((l.length : Int) == (m.length : Int)) = false := by simp; omega
                rw [decide_eq_true hhf, decide_eq_false hlm] at HSZ
                go_wp2_with fail
                go_meet
                exact ⟨by rw [HSZ.out]; rfl, HR.out⟩
            · have e1 : (f == h) = false := by simp; exact fun e => hhf e.symm
              rw [decide_eq_false hhf] at HSZ
              go_wp2_with fail
              go_meet
              exact ⟨by rw [HSZ.out]; rfl, HR.out⟩
          case rest =>
            obtain ⟨rfl, hk⟩ := hcut
            have HKc := Lib.hid hk
            clear hk
            go_wp2_with fail
            go_loopw [17, 60] (fun s k' wr => ∃ k : Nat, k ≤ m.length ∧ s = .bool (sm f h l m k) ∧ k' = .int .i64 k ∧ Below w3.heap.size w3 wr) (fun _ k' _ => m.length - (intOf k').toNat)
            case atStart => exact ⟨0, Nat.zero_le _, rfl, rfl, HKc.out⟩
            case round =>
              obtain ⟨k, hk, rfl, rfl, hb⟩ := hrel
              have HB := Lib.hid hb
              have HBw := Lib.hid (HB3.out.trans (hb.mono HB3.out.size))
              clear hb HKc
              by_cases hlt : k < m.length
              · have hlt2 : (k : Int) < (m.length : Int) := by omega
                have hst := sm_step (f := f) (h := h) (l := l) (m := m) hlt
                have hln := sm_len (f := f) (h := h) (l := l) (m := m) (k := k)
                generalize sm f h l m k = sk at *
                cases sk with
                | false =>
                  have HN := Lib.hid hst
                  clear hst hln
                  go_wp2_with fail
                  refine wp_region_held_drew (S := fun _ => True) (by kernel_rfl) (trivial) (fun hHeld => ?_)
                  refine wpAnyH_take (i := 0) (oi := Oper.mk _ _ _ _ _ _) (v := ?_) rfl (by kernel_rfl) (by kernel_rfl) (by kernel_rfl) (fun _ _ _ h => h) (Or.inl ⟨by rfl, ?_⟩) (by assumption) ?_
                  rotate_left
                  · (intro w hSw; (try dsimp only at hSw); go_simp; try with_reducible rfl)
                  try simp only [Act.put, List.setIfInBounds_toArray, List.set_cons_zero, List.set_cons_succ]
                  refine wpAnyH_take (i := 1) (oi := Oper.mk _ _ _ _ _ _) (v := ?_) rfl (by kernel_rfl) (by kernel_rfl) (by kernel_rfl) (fun _ _ _ h => h) (Or.inl ⟨by rfl, ?_⟩) (by assumption) ?_
                  rotate_left
                  · (intro w hSw; (try dsimp only at hSw); go_simp; try with_reducible rfl)
                  try simp only [Act.put, List.setIfInBounds_toArray, List.set_cons_zero, List.set_cons_succ]
                  refine wpAnyH_take (i := 2) (oi := Oper.mk _ _ _ _ _ _) (v := undef) rfl (by kernel_rfl) (by kernel_rfl) (by kernel_rfl) (fun _ _ _ h => h) (Or.inr ⟨by rfl, rfl⟩) (by assumption) ?_
                  try simp only [Act.put, List.setIfInBounds_toArray, List.set_cons_zero, List.set_cons_succ]
                  refine wpAnyH_take (i := 3) (oi := Oper.mk _ _ _ _ _ _) (v := undef) rfl (by kernel_rfl) (by kernel_rfl) (by kernel_rfl) (fun _ _ _ h => h) (Or.inr ⟨by rfl, rfl⟩) (by assumption) ?_
                  try simp only [Act.put, List.setIfInBounds_toArray, List.set_cons_zero, List.set_cons_succ]
                  refine wpAnyH_take (i := 4) (oi := Oper.mk _ _ _ _ _ _) (v := undef) rfl (by kernel_rfl) (by kernel_rfl) (by kernel_rfl) (fun _ _ _ h => h) (Or.inr ⟨by rfl, rfl⟩) (by assumption) ?_
                  try simp only [Act.put, List.setIfInBounds_toArray, List.set_cons_zero, List.set_cons_succ]
                  refine wpAnyH_take (i := 5) (oi := Oper.mk _ _ _ _ _ _) (v := undef) rfl (by kernel_rfl) (by kernel_rfl) (by kernel_rfl) (fun _ _ _ h => h) (Or.inr ⟨by rfl, rfl⟩) (by assumption) ?_
                  try simp only [Act.put, List.setIfInBounds_toArray, List.set_cons_zero, List.set_cons_succ]
                  refine wpAnyH_take (i := 6) (oi := Oper.mk _ _ _ _ _ _) (v := undef) rfl (by kernel_rfl) (by kernel_rfl) (by kernel_rfl) (fun _ _ _ h => h) (Or.inr ⟨by rfl, rfl⟩) (by assumption) ?_
                  try simp only [Act.put, List.setIfInBounds_toArray, List.set_cons_zero, List.set_cons_succ]
                  refine wpAnyH_take (i := 7) (oi := Oper.mk _ _ _ _ _ _) (v := undef) rfl (by kernel_rfl) (by kernel_rfl) (by kernel_rfl) (fun _ _ _ h => h) (Or.inr ⟨by rfl, rfl⟩) (by assumption) ?_
                  try simp only [Act.put, List.setIfInBounds_toArray, List.set_cons_zero, List.set_cons_succ]
                  refine wpAnyH_take (i := 8) (oi := Oper.mk _ _ _ _ _ _) (v := undef) rfl (by kernel_rfl) (by kernel_rfl) (by kernel_rfl) (fun _ _ _ h => h) (Or.inr ⟨by rfl, rfl⟩) (by assumption) ?_
                  try simp only [Act.put, List.setIfInBounds_toArray, List.set_cons_zero, List.set_cons_succ]
                  refine wpAnyH_take (i := 9) (oi := Oper.mk _ _ _ _ _ _) (v := undef) rfl (by kernel_rfl) (by kernel_rfl) (by kernel_rfl) (fun _ _ _ h => h) (Or.inr ⟨by rfl, rfl⟩) (by assumption) ?_
                  try simp only [Act.put, List.setIfInBounds_toArray, List.set_cons_zero, List.set_cons_succ]
                  refine wpAnyH_take (i := 10) (oi := Oper.mk _ _ _ _ _ _) (v := undef) rfl (by kernel_rfl) (by kernel_rfl) (by kernel_rfl) (fun _ _ _ h => h) (Or.inr ⟨by rfl, rfl⟩) (by assumption) ?_
                  try simp only [Act.put, List.setIfInBounds_toArray, List.set_cons_zero, List.set_cons_succ]
                  refine wpAnyH_take (i := 11) (oi := Oper.mk _ _ _ _ _ _) (v := ?_) rfl (by kernel_rfl) (by kernel_rfl) (by kernel_rfl) (fun _ _ _ h => h) (Or.inl ⟨by rfl, ?_⟩) (by assumption) ?_
                  rotate_left
                  · (intro w hSw; (try dsimp only at hSw); go_simp; try with_reducible rfl)
                  try simp only [Act.put, List.setIfInBounds_toArray, List.set_cons_zero, List.set_cons_succ]
                  refine wpAnyH_take (i := 12) (oi := Oper.mk _ _ _ _ _ _) (v := ?_) rfl (by kernel_rfl) (by kernel_rfl) (by kernel_rfl) (fun _ _ _ h => h) (Or.inl ⟨by rfl, ?_⟩) (by assumption) ?_
                  rotate_left
                  · (intro w hSw; (try dsimp only at hSw); go_simp; try with_reducible rfl)
                  try simp only [Act.put, List.setIfInBounds_toArray, List.set_cons_zero, List.set_cons_succ]
                  refine wpAnyH_done (by kernel_rfl) ?_ _
                  go_wp2_with fail
                  go_roundw
                  case rel => exact ⟨k + 1, by omega, by rw [HN.out]; rfl, by go_num, HB.out.drew⟩
                  case measure => simp [intOf]; omega
                | true =>
                  have hlm := hln rfl
                  have hlt3 : k < l.length := by omega
                  have hlt4 : (k : Int) < (l.length : Int) := by omega
                  obtain ⟨b1, o1, rfl, p1⟩ := HIm.out wr.drew HBw.out.drew k hlt
                  obtain ⟨b2, o2, rfl, p2⟩ := HIl.out wr.drew HBw.out.drew k hlt3
                  generalize m.getD k 0 = mk at hst p1
                  generalize l.getD k 0 = lk at hst p2
                  rw [int_beq_swap mk lk] at hst
                  have HN := Lib.hid hst
                  clear hst hln
                  go_wp2_with fail
                  refine wp_region_held_drew (S := fun W => W.cell? ⟨b1, o1 + k, none⟩ = some (.int .i64 mk) ∧ W.cell? ⟨b2, o2 + k, none⟩ = some (.int .i64 lk)) (by kernel_rfl) (⟨p1, p2⟩) (fun hHeld => ?_)
                  refine wpAnyH_take (i := 0) (oi := Oper.mk _ _ _ _ _ _) (v := ?_) rfl (by kernel_rfl) (by kernel_rfl) (by kernel_rfl) (fun _ _ _ h => h) (Or.inl ⟨by rfl, ?_⟩) (by assumption) ?_
                  rotate_left
                  · (intro w hSw; (try dsimp only at hSw); go_simp; try with_reducible rfl)
                  try simp only [Act.put, List.setIfInBounds_toArray, List.set_cons_zero, List.set_cons_succ]
                  refine wpAnyH_take (i := 1) (oi := Oper.mk _ _ _ _ _ _) (v := ?_) rfl (by kernel_rfl) (by kernel_rfl) (by kernel_rfl) (fun _ _ _ h => h) (Or.inl ⟨by rfl, ?_⟩) (by assumption) ?_
                  rotate_left
                  · (intro w hSw; (try dsimp only at hSw); go_simp; try with_reducible rfl)
                  try simp only [Act.put, List.setIfInBounds_toArray, List.set_cons_zero, List.set_cons_succ]
                  refine wpAnyH_take (i := 2) (oi := Oper.mk _ _ _ _ _ _) (v := ?_) rfl (by kernel_rfl) (by kernel_rfl) (by kernel_rfl) (fun _ _ _ h => h) (Or.inl ⟨by rfl, ?_⟩) (by assumption) ?_
                  rotate_left
                  · (intro w hSw; (try dsimp only at hSw); go_simp; try with_reducible rfl)
                  try simp only [Act.put, List.setIfInBounds_toArray, List.set_cons_zero, List.set_cons_succ]
                  refine wpAnyH_take (i := 3) (oi := Oper.mk _ _ _ _ _ _) (v := ?_) rfl (by kernel_rfl) (by kernel_rfl) (by kernel_rfl) (fun _ _ _ h => h) (Or.inl ⟨by rfl, ?_⟩) (by assumption) ?_
                  rotate_left
                  · (intro w hSw; (try dsimp only at hSw); go_simp; try with_reducible rfl)
                  try simp only [Act.put, List.setIfInBounds_toArray, List.set_cons_zero, List.set_cons_succ]
                  refine wpAnyH_take (i := 4) (oi := Oper.mk _ _ _ _ _ _) (v := ?_) rfl (by kernel_rfl) (by kernel_rfl) (by kernel_rfl) (fun _ _ _ h => h) (Or.inl ⟨by rfl, ?_⟩) (by assumption) ?_
                  rotate_left
                  · (intro w hSw; (try dsimp only at hSw); go_simp; try with_reducible rfl)
                  try simp only [Act.put, List.setIfInBounds_toArray, List.set_cons_zero, List.set_cons_succ]
                  refine wpAnyH_take (i := 5) (oi := Oper.mk _ _ _ _ _ _) (v := ?_) rfl (by kernel_rfl) (by kernel_rfl) (by kernel_rfl) (fun _ _ _ h => h) (Or.inl ⟨by rfl, ?_⟩) (by assumption) ?_
                  rotate_left
                  · (intro w hSw; (try dsimp only at hSw); go_simp; try with_reducible rfl)
                  try simp only [Act.put, List.setIfInBounds_toArray, List.set_cons_zero, List.set_cons_succ]
                  refine wpAnyH_take (i := 6) (oi := Oper.mk _ _ _ _ _ _) (v := ?_) rfl (by kernel_rfl) (by kernel_rfl) (by kernel_rfl) (fun _ _ _ h => h) (Or.inl ⟨by rfl, ?_⟩) (by assumption) ?_
                  rotate_left
                  · (intro w hSw; (try dsimp only at hSw); go_simp; try with_reducible rfl)
                  try simp only [Act.put, List.setIfInBounds_toArray, List.set_cons_zero, List.set_cons_succ]
                  refine wpAnyH_take (i := 7) (oi := Oper.mk _ _ _ _ _ _) (v := ?_) rfl (by kernel_rfl) (by kernel_rfl) (by kernel_rfl) (fun _ _ _ h => h) (Or.inl ⟨by rfl, ?_⟩) (by assumption) ?_
                  rotate_left
                  · (intro w hSw; (try dsimp only at hSw); go_simp; try with_reducible rfl)
                  try simp only [Act.put, List.setIfInBounds_toArray, List.set_cons_zero, List.set_cons_succ]
                  refine wpAnyH_take (i := 8) (oi := Oper.mk _ _ _ _ _ _) (v := ?_) rfl (by kernel_rfl) (by kernel_rfl) (by kernel_rfl) (fun _ _ _ h => h) (Or.inl ⟨by rfl, ?_⟩) (by assumption) ?_
                  rotate_left
                  · (intro w hSw; (try dsimp only at hSw); go_simp; try with_reducible rfl)
                  try simp only [Act.put, List.setIfInBounds_toArray, List.set_cons_zero, List.set_cons_succ]
                  refine wpAnyH_take (i := 9) (oi := Oper.mk _ _ _ _ _ _) (v := ?_) rfl (by kernel_rfl) (by kernel_rfl) (by kernel_rfl) (fun _ _ _ h => h) (Or.inl ⟨by rfl, ?_⟩) (by assumption) ?_
                  rotate_left
                  · (intro w hSw; (try dsimp only at hSw); go_simp; try with_reducible rfl)
                  try simp only [Act.put, List.setIfInBounds_toArray, List.set_cons_zero, List.set_cons_succ]
                  refine wpAnyH_take (i := 10) (oi := Oper.mk _ _ _ _ _ _) (v := ?_) rfl (by kernel_rfl) (by kernel_rfl) (by kernel_rfl) (fun _ _ _ h => h) (Or.inl ⟨by rfl, ?_⟩) (by assumption) ?_
                  rotate_left
                  · (intro w hSw; (try dsimp only at hSw); go_simp; try with_reducible rfl)
                  try simp only [Act.put, List.setIfInBounds_toArray, List.set_cons_zero, List.set_cons_succ]
                  refine wpAnyH_take (i := 11) (oi := Oper.mk _ _ _ _ _ _) (v := ?_) rfl (by kernel_rfl) (by kernel_rfl) (by kernel_rfl) (fun _ _ _ h => h) (Or.inl ⟨by rfl, ?_⟩) (by assumption) ?_
                  rotate_left
                  · (intro w hSw; (try dsimp only at hSw); go_simp; try with_reducible rfl)
                  try simp only [Act.put, List.setIfInBounds_toArray, List.set_cons_zero, List.set_cons_succ]
                  refine wpAnyH_take (i := 12) (oi := Oper.mk _ _ _ _ _ _) (v := ?_) rfl (by kernel_rfl) (by kernel_rfl) (by kernel_rfl) (fun _ _ _ h => h) (Or.inl ⟨by rfl, ?_⟩) (by assumption) ?_
                  rotate_left
                  · (intro w hSw; (try dsimp only at hSw); go_simp; try with_reducible rfl)
                  try simp only [Act.put, List.setIfInBounds_toArray, List.set_cons_zero, List.set_cons_succ]
                  refine wpAnyH_done (by kernel_rfl) ?_ _
                  go_wp2_with fail
                  go_roundw
                  case rel => exact ⟨k + 1, by omega, by rw [HN.out]; rfl, by go_num, HB.out.drew⟩
                  case measure => simp [intOf]; omega
              · obtain rfl : k = m.length := by omega
                have HG := Lib.hid (HG3.out.on HB.out)
                have HF := Lib.hid (sm_not (f := f) (h := h) (l := l) (m := m))
                generalize sm f h l m m.length = sf at *
                clear HB HB3 HG3 HIl HIm
                obtain ⟨q0, q1, q2, q3, q4, _, _⟩ := HG.out
                have hcall := HWfx.out wr HBw.out HS.out (by omega) HS2.out
                go_wp2_with fail
                refine hcall.mono ?_
                rintro e w5 ⟨Q1, r1, Q2, r2, rfl, hz, hb5⟩
                have HB5 := Lib.hid (HBw.out.trans (hb5.mono HBw.out.size))
                have BA5 := Lib.hid ((Below.refl w5.heap.size w5).alloc (Nat.le_refl _) (.cells #[.slice Q1 (withW g x f l v).sizes.length r1, .slice Q2 (withW g x f l v).funs.length r2] 30))
                have HB6 := Lib.hid (HB5.out.trans (BA5.out.mono HB5.out.size))
                have HG6 := Lib.hid ((HG.out.on hb5).on BA5.out)
                have HZ6 := Lib.hid (hz.on BA5.out)
                have HY6 := Lib.hid (yb_made w5 (.slice Q1 (withW g x f l v).sizes.length r1) (.slice Q2 (withW g x f l v).funs.length r2) 30)
                clear hz hb5 hcall q0 q1 q2 q3 q4 HG BA5 HB5 HBw
                obtain ⟨q0, q1, q2, q3, q4, _, _⟩ := HG6.out
                go_upto_region 10 with fail
                generalize hyb : w5.heap.size = yb at *
                clear hyb
                generalize w5.alloc (.cells #[.slice Q1 (withW g x f l v).sizes.length r1, .slice Q2 (withW g x f l v).funs.length r2] 30) = w6 at *
                have hcall := HWhx.out w6 HB6.out HS.out (by omega) HS2.out
                go_wp2_with fail
                refine hcall.mono ?_
                rintro e w7 ⟨R1, t1, R2, t2, rfl, hz, hb7⟩
                have HB7 := Lib.hid (HB6.out.trans (hb7.mono HB6.out.size))
                have BA7 := Lib.hid ((Below.refl w7.heap.size w7).alloc (Nat.le_refl _) (.cells #[.slice R1 (withW g x h m u).sizes.length t1, .slice R2 (withW g x h m u).funs.length t2] 30))
                have HB8 := Lib.hid (HB7.out.trans (BA7.out.mono HB7.out.size))
                have HG8 := Lib.hid ((HG6.out.on hb7).on BA7.out)
                have HZ8 := Lib.hid ((HZ6.out.on hb7).on BA7.out)
                have HY8 := Lib.hid ((HY6.out.on hb7).on BA7.out)
                have HR8 := Lib.hid (hz.on BA7.out)
                have HU8 := Lib.hid (yb_made w7 (.slice R1 (withW g x h m u).sizes.length t1) (.slice R2 (withW g x h m u).funs.length t2) 30)
                clear hz hb7 hcall q0 q1 q2 q3 q4 HG6 BA7 HB7 HB6 HZ6 HY6
                go_upto_region 11 with fail
                generalize hub : w7.heap.size = ub at *
                clear hub
                generalize w7.alloc (.cells #[.slice R1 (withW g x h m u).sizes.length t1, .slice R2 (withW g x h m u).funs.length t2] 30) = w8 at *
                have HWk := Lib.hid (HW.out w8 HB8.out)
                cases sf with
                | true =>
                  go_wp2_with fail
                  refine HWk.out.mono ?_
                  rintro e w9 ⟨rfl, hb9⟩
                  have HB9 := Lib.hid (HB8.out.trans (hb9.mono HB8.out.size))
                  clear hb9
                  go_wp2_with fail
                  go_ret
                  exact ⟨rfl, HB9.out⟩
                | false =>
                  have HE1 := Lib.hid (with_cases g x f l v)
                  have HE2 := Lib.hid (with_cases g x h m u)
                  have HTn := Lib.hid (turns (g := g) (x := x) (v := v) (u := u) (HF.out rfl))
                  have HZW1 := Lib.hid (fun e => withW_zero (g := g) (x := x) (f := f) (l := l) (v := v) e)
                  have HZW2 := Lib.hid (fun e => withW_zero (g := g) (x := x) (f := h) (l := m) (v := u) e)
                  generalize withE g x f l v = E1 at *
                  generalize withE g x h m u = E2 at *
                  rcases HE1.out with rfl | rfl | rfl
                  case inr.inl =>
                    go_wp2_with fail
                    refine HWk.out.mono ?_
                    rintro e w9 ⟨rfl, hb9⟩
                    have HB9 := Lib.hid (HB8.out.trans (hb9.mono HB8.out.size))
                    clear hb9
                    go_wp2_with fail
                    go_ret
                    exact ⟨rfl, HB9.out⟩
                  case inr.inr =>
                    go_wp2_with fail
                    refine HWk.out.mono ?_
                    rintro e w9 ⟨rfl, hb9⟩
                    have HB9 := Lib.hid (HB8.out.trans (hb9.mono HB8.out.size))
                    clear hb9
                    go_wp2_with fail
                    go_ret
                    exact ⟨rfl, HB9.out⟩
                  case inl =>
                    rcases HE2.out with rfl | rfl | rfl
                    case inr.inl =>
                      go_wp2_with fail
                      refine HWk.out.mono ?_
                      rintro e w9 ⟨rfl, hb9⟩
                      have HB9 := Lib.hid (HB8.out.trans (hb9.mono HB8.out.size))
                      clear hb9
                      go_wp2_with fail
                      go_ret
                      exact ⟨rfl, HB9.out⟩
                    case inr.inr =>
                      go_wp2_with fail
                      refine HWk.out.mono ?_
                      rintro e w9 ⟨rfl, hb9⟩
                      have HB9 := Lib.hid (HB8.out.trans (hb9.mono HB8.out.size))
                      clear hb9
                      go_wp2_with fail
                      go_ret
                      exact ⟨rfl, HB9.out⟩
                    case inl =>
                      have eW1 := HZW1.out rfl
                      have eW2 := HZW2.out rfl
                      have ht := HTn.out rfl rfl
                      have HT1 := Lib.hid ht.1
                      have HT2 := Lib.hid ht.2
                      clear ht HTn HZW1 HZW2 HE1 HE2 HF
                      have HS8 := Lib.hid (show (withX x f l v).sizes.length ≤ 10 ∧ (withX x h m u).sizes.length ≤ 10 from ⟨HS2.out.1, HS2.out.1⟩)
                      rw [eW1] at HZ8 HY8
                      rw [eW2] at HR8 HU8
                      obtain ⟨q0, q1, q2, q3, q4, _, _⟩ := HG8.out
                      have HFl := Lib.hid (show (withX x f l v).funs.length = (withX x h m u).funs.length by rw [withX_funs, withX_funs])
                      generalize withX x f l v = Y at *
                      generalize withX x h m u = U at *
                      clear eW1 eW2 q3 q4
                      obtain ⟨p0, p1, _⟩ := HY8.out
                      have hcall := HWh.out w8 HB8.out HS.out (by omega) Y Q1 r1 Q2 r2 HZ8.out HS8.out.1
                      go_wp2_with fail
                      refine hcall.mono ?_
                      rintro e w9 ⟨S1, s1, S2, s2, rfl, hz, hb9⟩
                      have HB9 := Lib.hid (HB8.out.trans (hb9.mono HB8.out.size))
                      have BA9 := Lib.hid ((Below.refl w9.heap.size w9).alloc (Nat.le_refl _) (.cells #[.slice S1 (withW g Y h m u).sizes.length s1, .slice S2 (withW g Y h m u).funs.length s2] 30))
                      have HB10 := Lib.hid (HB9.out.trans (BA9.out.mono HB9.out.size))
                      have HG10 := Lib.hid ((HG8.out.on hb9).on BA9.out)
                      have HU10 := Lib.hid ((HU8.out.on hb9).on BA9.out)
                      have HR10 := Lib.hid ((HR8.out.on hb9).on BA9.out)
                      have HV10 := Lib.hid (hz.on BA9.out)
                      have HM10 := Lib.hid (yb_made w9 (.slice S1 (withW g Y h m u).sizes.length s1) (.slice S2 (withW g Y h m u).funs.length s2) 30)
                      clear hz hb9 hcall q0 q1 q2 p0 p1 HG8 HU8 HR8 BA9 HB9 HB8 HZ8 HY8 HWk
                      go_upto_region 14 with fail
                      generalize hxb : w9.heap.size = mb at *
                      clear hxb
                      generalize w9.alloc (.cells #[.slice S1 (withW g Y h m u).sizes.length s1, .slice S2 (withW g Y h m u).funs.length s2] 30) = w10 at *
                      obtain ⟨q0, q1, q2, _, _, _, _⟩ := HG10.out
                      obtain ⟨p0, p1, _⟩ := HU10.out
                      have hcall := HWf.out w10 HB10.out HS.out (by omega) U R1 t1 R2 t2 HR10.out HS8.out.2
                      go_wp2_with fail
                      refine hcall.mono ?_
                      rintro e w11 ⟨T1, a1, T2, a2, rfl, hz, hb11⟩
                      have HB11 := Lib.hid (HB10.out.trans (hb11.mono HB10.out.size))
                      have BA11 := Lib.hid ((Below.refl w11.heap.size w11).alloc (Nat.le_refl _) (.cells #[.slice T1 (withW g U f l v).sizes.length a1, .slice T2 (withW g U f l v).funs.length a2] 30))
                      have HB12 := Lib.hid (HB11.out.trans (BA11.out.mono HB11.out.size))
                      have HG12 := Lib.hid ((HG10.out.on hb11).on BA11.out)
                      have HM12 := Lib.hid ((HM10.out.on hb11).on BA11.out)
                      have HV12 := Lib.hid ((HV10.out.on hb11).on BA11.out)
                      have HX12 := Lib.hid (hz.on BA11.out)
                      have HN12 := Lib.hid (yb_made w11 (.slice T1 (withW g U f l v).sizes.length a1) (.slice T2 (withW g U f l v).funs.length a2) 30)
                      clear hz hb11 hcall q0 q1 q2 p0 p1 HG10 HU10 HR10 BA11 HB11 HB10 HV10 HM10
                      go_upto_region 15 with fail
                      generalize hxb : w11.heap.size = nb at *
                      clear hxb
                      generalize w11.alloc (.cells #[.slice T1 (withW g U f l v).sizes.length a1, .slice T2 (withW g U f l v).funs.length a2] 30) = w12 at *
                      have HE3 := Lib.hid (with_cases g Y h m u)
                      have HM3 := Lib.hid (fun e => with_may (g := g) (x := Y) (f := h) (l := m) (v := u) e)
                      have HZ3 := Lib.hid (fun e => withW_zero (g := g) (x := Y) (f := h) (l := m) (v := u) e)
                      have HZ4 := Lib.hid (fun e => withW_zero (g := g) (x := U) (f := f) (l := l) (v := v) e)
                      have HWk := Lib.hid (HW.out w12 HB12.out)
                      have HT4 := Lib.hid (And.intro HT1.out HT2.out)
                      clear HT1 HT2
                      generalize withE g Y h m u = E3 at *
                      generalize withE g U f l v = E4 at *
                      obtain rfl : E3 = E4 := HT4.out.1
                      rcases HE3.out with rfl | rfl | rfl
                      case inr.inl =>
                        go_wp2_with fail
                        refine HWk.out.mono ?_
                        rintro e w13 ⟨rfl, hb13⟩
                        have HB13 := Lib.hid (HB12.out.trans (hb13.mono HB12.out.size))
                        clear hb13
                        go_wp2_with fail
                        go_ret
                        exact ⟨rfl, HB13.out⟩
                      case inr.inr =>
                        go_wp2_with fail
                        refine HWk.out.mono ?_
                        rintro e w13 ⟨rfl, hb13⟩
                        have HB13 := Lib.hid (HB12.out.trans (hb13.mono HB12.out.size))
                        clear hb13
                        go_wp2_with fail
                        go_ret
                        exact ⟨rfl, HB13.out⟩
                      case inl =>
                        have eW3 := HZ3.out rfl
                        have eW4 := HZ4.out rfl
                        have hmay := HM3.out rfl
                        have HQ := Lib.hid (HT4.out.2 rfl)
                        have HFl2 := Lib.hid (show (withX Y h m u).funs.length = (withX U f l v).funs.length by rw [withX_funs, withX_funs]; exact HFl.out)
                        have HS12 := Lib.hid (show (withX Y h m u).sizes.length ≤ 10 ∧ (withX U f l v).sizes.length ≤ 10 from HS8.out)
                        rw [eW3] at HV12 HM12
                        rw [eW4] at HX12 HN12
                        have HMay := Lib.hid hmay
                        clear hmay eW3 eW4 HE3 HM3 HZ3 HZ4 HWk HT4 HFl HS8
                        generalize withX Y h m u = V at *
                        generalize withX U f l v = X at *
                        have BA14 := Lib.hid ((Below.refl w12.heap.size w12).alloc (Nat.le_refl _) (.cells #[.slice A l.length c, .slice O m.length co] 27))
                        have HB14 := Lib.hid (HB12.out.trans (BA14.out.mono HB12.out.size))
                        have HG14 := Lib.hid (HG12.out.on BA14.out)
                        have HM14 := Lib.hid (HM12.out.on BA14.out)
                        have HN14 := Lib.hid (HN12.out.on BA14.out)
                        have HV14 := Lib.hid (HV12.out.on BA14.out)
                        have HX14 := Lib.hid (HX12.out.on BA14.out)
                        have HL14 := Lib.hid (yb_made w12 (.slice A l.length c) (.slice O m.length co) 27)
                        clear HG12 HM12 HN12 HV12 HX12 BA14 HB12
                        obtain ⟨e1, e2, e3, e4, e5, e6⟩ := HQ.out
                        have HA1 := Lib.hid (fun W (hW : Below w.heap.size w W) hX => HAf.out W hW HS.out (by omega) V S1 s1 S2 s2 hX HS12.out.1)
                        have HA2 := Lib.hid (fun W (hW : Below w.heap.size w W) hX => HAf.out W hW HS.out (by omega) X T1 a1 T2 a2 hX HS12.out.2)
                        have HA3 := Lib.hid (fun W (hW : Below w.heap.size w W) hX => HAh.out W hW HS.out (by omega) V S1 s1 S2 s2 hX HS12.out.1)
                        have HA4 := Lib.hid (fun W (hW : Below w.heap.size w W) hX => HAh.out W hW HS.out (by omega) X T1 a1 T2 a2 hX HS12.out.2)
                        have HMV := Lib.hid (fun W (hW : Below w.heap.size w W) hX => HMy.out W hW HS.out V S1 s1 S2 s2 hX HS12.out.1)
                        rw [e1] at HA1
                        rw [e2, ← e3] at HA2
                        rw [e4] at HA3
                        rw [e5, ← e6] at HA4
                        rw [HMay.out] at HMV
                        clear HAf HAh HMy e1 e2 e3 e4 e5 e6 HQ HMay HS12 HS HS2 HWf HWh HWfx HWhx HX
                        generalize applyV g V f l = r1 at *
                        generalize applyV g V h m = r2 at *
                        have HTW := Lib.hid (show TW w _ mb nb _ _ _ _ _ _ _ _ _ _ S1 s1 S2 s2 V T1 a1 T2 a2 X from ⟨HB14.out, HG14.out.g0, HG14.out.g1, HG14.out.g2, HG14.out.lg, HM14.out, HN14.out, HL14.out, HV14.out, HX14.out⟩)
                        have HFn := Lib.hid (show ((V.funs.length : Int) == (X.funs.length : Int)) = true by rw [HFl2.out]; simp)
                        clear HB14 HG14 HM14 HN14 HV14 HX14 HL14 HFl2
                        go_wp2_with fail
                        generalize hlb : w12.heap.size = lb at *
                        clear hlb
                        generalize w12.alloc (.cells #[.slice A l.length c, .slice O m.length co] 27) = w14 at *
                        generalize V.sizes.length = z1 at *
                        generalize V.funs.length = z2 at *
                        generalize X.sizes.length = z3 at *
                        generalize X.funs.length = z4 at *
                        have hr1 : (r1 != r1) = false := by simp
                        have hr2 : (r2 != r2) = false := by simp
                        go_loopw [138] (fun v' wr => ∃ k : Nat, k ≤ 2 ∧ v' = .int .i64 k ∧ TW w wr mb nb lb (.slice A1 n1 c1) (.slice A2 n2 c2) (.slice A3 n3 c3) (.slice S1 z1 s1) (.slice S2 z2 s2) (.slice T1 z3 a1) (.slice T2 z4 a2) (.slice A l.length c) (.slice O m.length co) S1 s1 S2 s2 V T1 a1 T2 a2 X) (fun v' _ => 2 - (intOf v').toNat)
                        case atStart => exact ⟨0, by omega, rfl, HTW.out⟩
                        case round =>
                          obtain ⟨k, hk, rfl, hb⟩ := hrel
                          have HR := Lib.hid hb
                          obtain ⟨l0, l1, _⟩ := HR.out.l
                          clear hb HTW
                          have h3 : k = 0 ∨ k = 1 ∨ k = 2 := by omega
                          rcases h3 with rfl | rfl | rfl
                          · go_wp2_with fail
                            clear l0 l1
                            have K0 := Lib.hid (HR.out.on (Below.refl _ _).drew)
                            refine wp_region_held_drew (S := fun W => (W.cell? ⟨w.heap.size, 0, none⟩ = some (.slice A1 n1 c1) ∧ W.cell? ⟨w.heap.size, 1, none⟩ = some (.slice A2 n2 c2) ∧ W.cell? ⟨w.heap.size, 2, none⟩ = some (.slice A3 n3 c3)) ∧ W.cell? ⟨mb, 0, none⟩ = some (.slice S1 z1 s1) ∧ W.cell? ⟨mb, 1, none⟩ = some (.slice S2 z2 s2)) (by kernel_rfl) (⟨⟨K0.out.g0, K0.out.g1, K0.out.g2⟩, K0.out.m.y0, K0.out.m.y1⟩) (fun hHeld => ?_)
                            refine wpAnyH_take (i := 0) (oi := Oper.mk _ _ _ _ _ _) (v := ?_) rfl (by kernel_rfl) (by kernel_rfl) (by kernel_rfl) (fun _ _ _ h => h) (Or.inl ⟨by rfl, ?_⟩) (by assumption) ?_
                            rotate_left
                            · (intro w hSw; (try dsimp only at hSw); go_simp; try with_reducible rfl)
                            try simp only [Act.put, List.setIfInBounds_toArray, List.set_cons_zero, List.set_cons_succ]
                            refine wpAnyH_take (i := 1) (oi := Oper.mk _ _ _ _ _ _) (v := ?_) rfl (by kernel_rfl) (by kernel_rfl) (by kernel_rfl) (fun _ _ _ h => h) (Or.inl ⟨by rfl, ?_⟩) (by assumption) ?_
                            rotate_left
                            · (intro w hSw; (try dsimp only at hSw); go_simp; try with_reducible rfl)
                            try simp only [Act.put, List.setIfInBounds_toArray, List.set_cons_zero, List.set_cons_succ]
                            refine wpAnyH_take (i := 2) (oi := Oper.mk _ _ _ _ _ _) (v := ?_) rfl (by kernel_rfl) (by kernel_rfl) (by kernel_rfl) (fun _ _ _ h => h) (Or.inl ⟨by rfl, ?_⟩) (by assumption) ?_
                            rotate_left
                            · (intro w hSw; (try dsimp only at hSw); go_simp; try with_reducible rfl)
                            try simp only [Act.put, List.setIfInBounds_toArray, List.set_cons_zero, List.set_cons_succ]
                            refine wpAnyH_take (i := 3) (oi := Oper.mk _ _ _ _ _ _) (v := ?_) rfl (by kernel_rfl) (by kernel_rfl) (by kernel_rfl) (fun _ _ _ h => h) (Or.inl ⟨by rfl, ?_⟩) (by assumption) ?_
                            rotate_left
                            · (intro w hSw; (try dsimp only at hSw); go_simp; try with_reducible rfl)
                            try simp only [Act.put, List.setIfInBounds_toArray, List.set_cons_zero, List.set_cons_succ]
                            refine wpAnyH_take (i := 5) (oi := Oper.mk _ _ _ _ _ _) (v := ?_) rfl (by kernel_rfl) (by kernel_rfl) (by kernel_rfl) (fun _ _ _ h => h) (Or.inl ⟨by rfl, ?_⟩) (by assumption) ?_
                            rotate_left
                            · (intro w hSw; (try dsimp only at hSw); go_simp; try with_reducible rfl)
                            try simp only [Act.put, List.setIfInBounds_toArray, List.set_cons_zero, List.set_cons_succ]
                            refine wpAnyH_take (i := 8) (oi := Oper.mk _ _ _ _ _ _) (v := ?_) rfl (by kernel_rfl) (by kernel_rfl) (by kernel_rfl) (fun _ _ _ h => h) (Or.inl ⟨by rfl, ?_⟩) (by assumption) ?_
                            rotate_left
                            · (intro w hSw; (try dsimp only at hSw); go_simp; try with_reducible rfl)
                            try simp only [Act.put, List.setIfInBounds_toArray, List.set_cons_zero, List.set_cons_succ]
                            generalize hwd : World.drew _ = wd at *
                            clear hwd
                            refine wpAnyH_ready (rs := [4]) (by kernel_rfl) (by simp) ?_
                            refine AllReadyH.cons (o := Oper.mk _ _ _ _ _ _) rfl (fun K hK => ?_) AllReadyH.nil
                            go_simp
                            have BA := Lib.hid ((Below.refl wd.heap.size wd).alloc (Nat.le_refl _) (.cells #[.int .i64 f, .int .i64 h] 3))
                            have K2 := Lib.hid (K0.out.on BA.out)
                            have C2 := Lib.hid (yb_made wd (.int .i64 f) (.int .i64 h) 3)
                            refine hK.out _ _ (⟨⟨K2.out.g0, K2.out.g1, K2.out.g2⟩, K2.out.m.y0, K2.out.m.y1⟩) (fun hHeld => ?_)
                            clear hK K
                            try simp only [Act.put, List.setIfInBounds_toArray, List.set_cons_zero, List.set_cons_succ]
                            generalize hlb : wd.heap.size = fb at *
                            clear hlb
                            generalize hw2 : wd.alloc (.cells #[.int .i64 f, .int .i64 h] 3) = w2 at *
                            clear hw2
                            refine wpAnyH_take (i := 6) (oi := Oper.mk _ _ _ _ _ _) (v := ?_) rfl (by kernel_rfl) (by kernel_rfl) (by kernel_rfl) (fun _ _ _ h => h) (Or.inl ⟨by rfl, ?_⟩) (by assumption) ?_
                            rotate_left
                            · (intro w hSw; (try dsimp only at hSw); go_simp; try with_reducible rfl)
                            try simp only [Act.put, List.setIfInBounds_toArray, List.set_cons_zero, List.set_cons_succ]
                            refine wpAnyH_ready (rs := [7]) (by kernel_rfl) (by simp) ?_
                            refine AllReadyH.cons (o := Oper.mk _ _ _ _ _ _) rfl (fun K hK => ?_) AllReadyH.nil
                            obtain ⟨cc0, cc1, _⟩ := C2.out
                            go_simp
                            refine hK.out _ _ (⟨⟨K2.out.g0, K2.out.g1, K2.out.g2⟩, K2.out.m.y0, K2.out.m.y1⟩) (fun hHeld => ?_)
                            clear hK K cc0 cc1
                            try simp only [Act.put, List.setIfInBounds_toArray, List.set_cons_zero, List.set_cons_succ]
                            have hcall := HA1.out w2 K2.out.below K2.out.mw
                            refine wpAnyH_ready (rs := [9]) (by kernel_rfl) (by simp) ?_
                            refine AllReadyH.cons (o := Oper.mk _ _ _ _ _ _) rfl (fun K hK => ?_) AllReadyH.nil
                            go_simp
                            go_wp2_with (go_at_call 11; refine hcall.mono ?_; rintro e w4 ⟨rfl, hb4⟩; have K4 := Lib.hid (K2.out.on hb4))
                            refine hK.out _ _ (⟨⟨K4.out.g0, K4.out.g1, K4.out.g2⟩, K4.out.m.y0, K4.out.m.y1⟩) (fun hHeld => ?_)
                            clear hK K hb4 hcall C2 BA
                            try simp only [Act.put, List.setIfInBounds_toArray, List.set_cons_zero, List.set_cons_succ]
                            refine wpAnyH_take (i := 10) (oi := Oper.mk _ _ _ _ _ _) (v := ?_) rfl (by kernel_rfl) (by kernel_rfl) (by kernel_rfl) (fun _ _ _ h => h) (Or.inl ⟨by rfl, ?_⟩) (by assumption) ?_
                            rotate_left
                            · (intro w hSw; (try dsimp only at hSw); go_simp; try with_reducible rfl)
                            try simp only [Act.put, List.setIfInBounds_toArray, List.set_cons_zero, List.set_cons_succ]
                            refine wpAnyH_take (i := 11) (oi := Oper.mk _ _ _ _ _ _) (v := ?_) rfl (by kernel_rfl) (by kernel_rfl) (by kernel_rfl) (fun _ _ _ h => h) (Or.inl ⟨by rfl, ?_⟩) (by assumption) ?_
                            rotate_left
                            · (intro w hSw; (try dsimp only at hSw); go_simp; try with_reducible rfl)
                            try simp only [Act.put, List.setIfInBounds_toArray, List.set_cons_zero, List.set_cons_succ]
                            refine wpAnyH_take (i := 12) (oi := Oper.mk _ _ _ _ _ _) (v := ?_) rfl (by kernel_rfl) (by kernel_rfl) (by kernel_rfl) (fun _ _ _ h => h) (Or.inl ⟨by rfl, ?_⟩) (by assumption) ?_
                            rotate_left
                            · (intro w hSw; (try dsimp only at hSw); go_simp; try with_reducible rfl)
                            try simp only [Act.put, List.setIfInBounds_toArray, List.set_cons_zero, List.set_cons_succ]
                            refine wpAnyH_take (i := 13) (oi := Oper.mk _ _ _ _ _ _) (v := ?_) rfl (by kernel_rfl) (by kernel_rfl) (by kernel_rfl) (fun _ _ _ h => h) (Or.inl ⟨by rfl, ?_⟩) (by assumption) ?_
                            rotate_left
                            · (intro w hSw; (try dsimp only at hSw); go_simp; try with_reducible rfl)
                            try simp only [Act.put, List.setIfInBounds_toArray, List.set_cons_zero, List.set_cons_succ]
                            refine wpAnyH_take (i := 14) (oi := Oper.mk _ _ _ _ _ _) (v := ?_) rfl (by kernel_rfl) (by kernel_rfl) (by kernel_rfl) (fun _ _ _ h => h) (Or.inl ⟨by rfl, ?_⟩) (by assumption) ?_
                            rotate_left
                            · (intro w hSw; (try dsimp only at hSw); go_simp; try with_reducible rfl)
                            try simp only [Act.put, List.setIfInBounds_toArray, List.set_cons_zero, List.set_cons_succ]
                            refine wpAnyH_done (by kernel_rfl) ?_ _
                            have HR2 := K4
                            clear K0 K2 K4
                            go_wp2_with fail
                            have K0 := Lib.hid (HR2.out.on (Below.refl _ _).drew)
                            refine wp_region_held_drew (S := fun W => (W.cell? ⟨w.heap.size, 0, none⟩ = some (.slice A1 n1 c1) ∧ W.cell? ⟨w.heap.size, 1, none⟩ = some (.slice A2 n2 c2) ∧ W.cell? ⟨w.heap.size, 2, none⟩ = some (.slice A3 n3 c3)) ∧ W.cell? ⟨nb, 0, none⟩ = some (.slice T1 z3 a1) ∧ W.cell? ⟨nb, 1, none⟩ = some (.slice T2 z4 a2)) (by kernel_rfl) (⟨⟨K0.out.g0, K0.out.g1, K0.out.g2⟩, K0.out.n.y0, K0.out.n.y1⟩) (fun hHeld => ?_)
                            refine wpAnyH_take (i := 0) (oi := Oper.mk _ _ _ _ _ _) (v := ?_) rfl (by kernel_rfl) (by kernel_rfl) (by kernel_rfl) (fun _ _ _ h => h) (Or.inl ⟨by rfl, ?_⟩) (by assumption) ?_
                            rotate_left
                            · (intro w hSw; (try dsimp only at hSw); go_simp; try with_reducible rfl)
                            try simp only [Act.put, List.setIfInBounds_toArray, List.set_cons_zero, List.set_cons_succ]
                            refine wpAnyH_take (i := 1) (oi := Oper.mk _ _ _ _ _ _) (v := ?_) rfl (by kernel_rfl) (by kernel_rfl) (by kernel_rfl) (fun _ _ _ h => h) (Or.inl ⟨by rfl, ?_⟩) (by assumption) ?_
                            rotate_left
                            · (intro w hSw; (try dsimp only at hSw); go_simp; try with_reducible rfl)
                            try simp only [Act.put, List.setIfInBounds_toArray, List.set_cons_zero, List.set_cons_succ]
                            refine wpAnyH_take (i := 2) (oi := Oper.mk _ _ _ _ _ _) (v := ?_) rfl (by kernel_rfl) (by kernel_rfl) (by kernel_rfl) (fun _ _ _ h => h) (Or.inl ⟨by rfl, ?_⟩) (by assumption) ?_
                            rotate_left
                            · (intro w hSw; (try dsimp only at hSw); go_simp; try with_reducible rfl)
                            try simp only [Act.put, List.setIfInBounds_toArray, List.set_cons_zero, List.set_cons_succ]
                            refine wpAnyH_take (i := 3) (oi := Oper.mk _ _ _ _ _ _) (v := ?_) rfl (by kernel_rfl) (by kernel_rfl) (by kernel_rfl) (fun _ _ _ h => h) (Or.inl ⟨by rfl, ?_⟩) (by assumption) ?_
                            rotate_left
                            · (intro w hSw; (try dsimp only at hSw); go_simp; try with_reducible rfl)
                            try simp only [Act.put, List.setIfInBounds_toArray, List.set_cons_zero, List.set_cons_succ]
                            refine wpAnyH_take (i := 5) (oi := Oper.mk _ _ _ _ _ _) (v := ?_) rfl (by kernel_rfl) (by kernel_rfl) (by kernel_rfl) (fun _ _ _ h => h) (Or.inl ⟨by rfl, ?_⟩) (by assumption) ?_
                            rotate_left
                            · (intro w hSw; (try dsimp only at hSw); go_simp; try with_reducible rfl)
                            try simp only [Act.put, List.setIfInBounds_toArray, List.set_cons_zero, List.set_cons_succ]
                            refine wpAnyH_take (i := 8) (oi := Oper.mk _ _ _ _ _ _) (v := ?_) rfl (by kernel_rfl) (by kernel_rfl) (by kernel_rfl) (fun _ _ _ h => h) (Or.inl ⟨by rfl, ?_⟩) (by assumption) ?_
                            rotate_left
                            · (intro w hSw; (try dsimp only at hSw); go_simp; try with_reducible rfl)
                            try simp only [Act.put, List.setIfInBounds_toArray, List.set_cons_zero, List.set_cons_succ]
                            generalize hwd : World.drew _ = wd at *
                            clear hwd
                            refine wpAnyH_ready (rs := [4]) (by kernel_rfl) (by simp) ?_
                            refine AllReadyH.cons (o := Oper.mk _ _ _ _ _ _) rfl (fun K hK => ?_) AllReadyH.nil
                            go_simp
                            have BA := Lib.hid ((Below.refl wd.heap.size wd).alloc (Nat.le_refl _) (.cells #[.int .i64 f, .int .i64 h] 3))
                            have K2 := Lib.hid (K0.out.on BA.out)
                            have C2 := Lib.hid (yb_made wd (.int .i64 f) (.int .i64 h) 3)
                            refine hK.out _ _ (⟨⟨K2.out.g0, K2.out.g1, K2.out.g2⟩, K2.out.n.y0, K2.out.n.y1⟩) (fun hHeld => ?_)
                            clear hK K
                            try simp only [Act.put, List.setIfInBounds_toArray, List.set_cons_zero, List.set_cons_succ]
                            generalize hlb : wd.heap.size = fb at *
                            clear hlb
                            generalize hw2 : wd.alloc (.cells #[.int .i64 f, .int .i64 h] 3) = w2 at *
                            clear hw2
                            refine wpAnyH_take (i := 6) (oi := Oper.mk _ _ _ _ _ _) (v := ?_) rfl (by kernel_rfl) (by kernel_rfl) (by kernel_rfl) (fun _ _ _ h => h) (Or.inl ⟨by rfl, ?_⟩) (by assumption) ?_
                            rotate_left
                            · (intro w hSw; (try dsimp only at hSw); go_simp; try with_reducible rfl)
                            try simp only [Act.put, List.setIfInBounds_toArray, List.set_cons_zero, List.set_cons_succ]
                            refine wpAnyH_ready (rs := [7]) (by kernel_rfl) (by simp) ?_
                            refine AllReadyH.cons (o := Oper.mk _ _ _ _ _ _) rfl (fun K hK => ?_) AllReadyH.nil
                            obtain ⟨cc0, cc1, _⟩ := C2.out
                            go_simp
                            refine hK.out _ _ (⟨⟨K2.out.g0, K2.out.g1, K2.out.g2⟩, K2.out.n.y0, K2.out.n.y1⟩) (fun hHeld => ?_)
                            clear hK K cc0 cc1
                            try simp only [Act.put, List.setIfInBounds_toArray, List.set_cons_zero, List.set_cons_succ]
                            have hcall := HA2.out w2 K2.out.below K2.out.nw
                            refine wpAnyH_ready (rs := [9]) (by kernel_rfl) (by simp) ?_
                            refine AllReadyH.cons (o := Oper.mk _ _ _ _ _ _) rfl (fun K hK => ?_) AllReadyH.nil
                            go_simp
                            go_wp2_with (go_at_call 11; refine hcall.mono ?_; rintro e w4 ⟨rfl, hb4⟩; have K4 := Lib.hid (K2.out.on hb4))
                            refine hK.out _ _ (⟨⟨K4.out.g0, K4.out.g1, K4.out.g2⟩, K4.out.n.y0, K4.out.n.y1⟩) (fun hHeld => ?_)
                            clear hK K hb4 hcall C2 BA
                            try simp only [Act.put, List.setIfInBounds_toArray, List.set_cons_zero, List.set_cons_succ]
                            refine wpAnyH_take (i := 10) (oi := Oper.mk _ _ _ _ _ _) (v := ?_) rfl (by kernel_rfl) (by kernel_rfl) (by kernel_rfl) (fun _ _ _ h => h) (Or.inl ⟨by rfl, ?_⟩) (by assumption) ?_
                            rotate_left
                            · (intro w hSw; (try dsimp only at hSw); go_simp; try with_reducible rfl)
                            try simp only [Act.put, List.setIfInBounds_toArray, List.set_cons_zero, List.set_cons_succ]
                            refine wpAnyH_take (i := 11) (oi := Oper.mk _ _ _ _ _ _) (v := ?_) rfl (by kernel_rfl) (by kernel_rfl) (by kernel_rfl) (fun _ _ _ h => h) (Or.inl ⟨by rfl, ?_⟩) (by assumption) ?_
                            rotate_left
                            · (intro w hSw; (try dsimp only at hSw); go_simp; try with_reducible rfl)
                            try simp only [Act.put, List.setIfInBounds_toArray, List.set_cons_zero, List.set_cons_succ]
                            refine wpAnyH_take (i := 12) (oi := Oper.mk _ _ _ _ _ _) (v := ?_) rfl (by kernel_rfl) (by kernel_rfl) (by kernel_rfl) (fun _ _ _ h => h) (Or.inl ⟨by rfl, ?_⟩) (by assumption) ?_
                            rotate_left
                            · (intro w hSw; (try dsimp only at hSw); go_simp; try with_reducible rfl)
                            try simp only [Act.put, List.setIfInBounds_toArray, List.set_cons_zero, List.set_cons_succ]
                            refine wpAnyH_take (i := 13) (oi := Oper.mk _ _ _ _ _ _) (v := ?_) rfl (by kernel_rfl) (by kernel_rfl) (by kernel_rfl) (fun _ _ _ h => h) (Or.inl ⟨by rfl, ?_⟩) (by assumption) ?_
                            rotate_left
                            · (intro w hSw; (try dsimp only at hSw); go_simp; try with_reducible rfl)
                            try simp only [Act.put, List.setIfInBounds_toArray, List.set_cons_zero, List.set_cons_succ]
                            refine wpAnyH_take (i := 14) (oi := Oper.mk _ _ _ _ _ _) (v := ?_) rfl (by kernel_rfl) (by kernel_rfl) (by kernel_rfl) (fun _ _ _ h => h) (Or.inl ⟨by rfl, ?_⟩) (by assumption) ?_
                            rotate_left
                            · (intro w hSw; (try dsimp only at hSw); go_simp; try with_reducible rfl)
                            try simp only [Act.put, List.setIfInBounds_toArray, List.set_cons_zero, List.set_cons_succ]
                            refine wpAnyH_done (by kernel_rfl) ?_ _
                            have HR3 := K4
                            clear K0 K2 K4
                            go_wp2_with fail
                            exact ⟨⟨1, by omega, rfl, HR3.out⟩, by simp [intOf]⟩
                          · go_wp2_with fail
                            clear l0 l1
                            have K0 := Lib.hid (HR.out.on (Below.refl _ _).drew)
                            refine wp_region_held_drew (S := fun W => (W.cell? ⟨w.heap.size, 0, none⟩ = some (.slice A1 n1 c1) ∧ W.cell? ⟨w.heap.size, 1, none⟩ = some (.slice A2 n2 c2) ∧ W.cell? ⟨w.heap.size, 2, none⟩ = some (.slice A3 n3 c3)) ∧ W.cell? ⟨mb, 0, none⟩ = some (.slice S1 z1 s1) ∧ W.cell? ⟨mb, 1, none⟩ = some (.slice S2 z2 s2)) (by kernel_rfl) (⟨⟨K0.out.g0, K0.out.g1, K0.out.g2⟩, K0.out.m.y0, K0.out.m.y1⟩) (fun hHeld => ?_)
                            refine wpAnyH_take (i := 0) (oi := Oper.mk _ _ _ _ _ _) (v := ?_) rfl (by kernel_rfl) (by kernel_rfl) (by kernel_rfl) (fun _ _ _ h => h) (Or.inl ⟨by rfl, ?_⟩) (by assumption) ?_
                            rotate_left
                            · (intro w hSw; (try dsimp only at hSw); go_simp; try with_reducible rfl)
                            try simp only [Act.put, List.setIfInBounds_toArray, List.set_cons_zero, List.set_cons_succ]
                            refine wpAnyH_take (i := 1) (oi := Oper.mk _ _ _ _ _ _) (v := ?_) rfl (by kernel_rfl) (by kernel_rfl) (by kernel_rfl) (fun _ _ _ h => h) (Or.inl ⟨by rfl, ?_⟩) (by assumption) ?_
                            rotate_left
                            · (intro w hSw; (try dsimp only at hSw); go_simp; try with_reducible rfl)
                            try simp only [Act.put, List.setIfInBounds_toArray, List.set_cons_zero, List.set_cons_succ]
                            refine wpAnyH_take (i := 2) (oi := Oper.mk _ _ _ _ _ _) (v := ?_) rfl (by kernel_rfl) (by kernel_rfl) (by kernel_rfl) (fun _ _ _ h => h) (Or.inl ⟨by rfl, ?_⟩) (by assumption) ?_
                            rotate_left
                            · (intro w hSw; (try dsimp only at hSw); go_simp; try with_reducible rfl)
                            try simp only [Act.put, List.setIfInBounds_toArray, List.set_cons_zero, List.set_cons_succ]
                            refine wpAnyH_take (i := 3) (oi := Oper.mk _ _ _ _ _ _) (v := ?_) rfl (by kernel_rfl) (by kernel_rfl) (by kernel_rfl) (fun _ _ _ h => h) (Or.inl ⟨by rfl, ?_⟩) (by assumption) ?_
                            rotate_left
                            · (intro w hSw; (try dsimp only at hSw); go_simp; try with_reducible rfl)
                            try simp only [Act.put, List.setIfInBounds_toArray, List.set_cons_zero, List.set_cons_succ]
                            refine wpAnyH_take (i := 5) (oi := Oper.mk _ _ _ _ _ _) (v := ?_) rfl (by kernel_rfl) (by kernel_rfl) (by kernel_rfl) (fun _ _ _ h => h) (Or.inl ⟨by rfl, ?_⟩) (by assumption) ?_
                            rotate_left
                            · (intro w hSw; (try dsimp only at hSw); go_simp; try with_reducible rfl)
                            try simp only [Act.put, List.setIfInBounds_toArray, List.set_cons_zero, List.set_cons_succ]
                            refine wpAnyH_take (i := 8) (oi := Oper.mk _ _ _ _ _ _) (v := ?_) rfl (by kernel_rfl) (by kernel_rfl) (by kernel_rfl) (fun _ _ _ h => h) (Or.inl ⟨by rfl, ?_⟩) (by assumption) ?_
                            rotate_left
                            · (intro w hSw; (try dsimp only at hSw); go_simp; try with_reducible rfl)
                            try simp only [Act.put, List.setIfInBounds_toArray, List.set_cons_zero, List.set_cons_succ]
                            generalize hwd : World.drew _ = wd at *
                            clear hwd
                            refine wpAnyH_ready (rs := [4]) (by kernel_rfl) (by simp) ?_
                            refine AllReadyH.cons (o := Oper.mk _ _ _ _ _ _) rfl (fun K hK => ?_) AllReadyH.nil
                            go_simp
                            have BA := Lib.hid ((Below.refl wd.heap.size wd).alloc (Nat.le_refl _) (.cells #[.int .i64 f, .int .i64 h] 3))
                            have K2 := Lib.hid (K0.out.on BA.out)
                            have C2 := Lib.hid (yb_made wd (.int .i64 f) (.int .i64 h) 3)
                            refine hK.out _ _ (⟨⟨K2.out.g0, K2.out.g1, K2.out.g2⟩, K2.out.m.y0, K2.out.m.y1⟩) (fun hHeld => ?_)
                            clear hK K
                            try simp only [Act.put, List.setIfInBounds_toArray, List.set_cons_zero, List.set_cons_succ]
                            generalize hlb : wd.heap.size = fb at *
                            clear hlb
                            generalize hw2 : wd.alloc (.cells #[.int .i64 f, .int .i64 h] 3) = w2 at *
                            clear hw2
                            refine wpAnyH_take (i := 6) (oi := Oper.mk _ _ _ _ _ _) (v := ?_) rfl (by kernel_rfl) (by kernel_rfl) (by kernel_rfl) (fun _ _ _ h => h) (Or.inl ⟨by rfl, ?_⟩) (by assumption) ?_
                            rotate_left
                            · (intro w hSw; (try dsimp only at hSw); go_simp; try with_reducible rfl)
                            try simp only [Act.put, List.setIfInBounds_toArray, List.set_cons_zero, List.set_cons_succ]
                            refine wpAnyH_ready (rs := [7]) (by kernel_rfl) (by simp) ?_
                            refine AllReadyH.cons (o := Oper.mk _ _ _ _ _ _) rfl (fun K hK => ?_) AllReadyH.nil
                            obtain ⟨cc0, cc1, _⟩ := C2.out
                            go_simp
                            refine hK.out _ _ (⟨⟨K2.out.g0, K2.out.g1, K2.out.g2⟩, K2.out.m.y0, K2.out.m.y1⟩) (fun hHeld => ?_)
                            clear hK K cc0 cc1
                            try simp only [Act.put, List.setIfInBounds_toArray, List.set_cons_zero, List.set_cons_succ]
                            have hcall := HA3.out w2 K2.out.below K2.out.mw
                            refine wpAnyH_ready (rs := [9]) (by kernel_rfl) (by simp) ?_
                            refine AllReadyH.cons (o := Oper.mk _ _ _ _ _ _) rfl (fun K hK => ?_) AllReadyH.nil
                            go_simp
                            go_wp2_with (go_at_call 11; refine hcall.mono ?_; rintro e w4 ⟨rfl, hb4⟩; have K4 := Lib.hid (K2.out.on hb4))
                            refine hK.out _ _ (⟨⟨K4.out.g0, K4.out.g1, K4.out.g2⟩, K4.out.m.y0, K4.out.m.y1⟩) (fun hHeld => ?_)
                            clear hK K hb4 hcall C2 BA
                            try simp only [Act.put, List.setIfInBounds_toArray, List.set_cons_zero, List.set_cons_succ]
                            refine wpAnyH_take (i := 10) (oi := Oper.mk _ _ _ _ _ _) (v := ?_) rfl (by kernel_rfl) (by kernel_rfl) (by kernel_rfl) (fun _ _ _ h => h) (Or.inl ⟨by rfl, ?_⟩) (by assumption) ?_
                            rotate_left
                            · (intro w hSw; (try dsimp only at hSw); go_simp; try with_reducible rfl)
                            try simp only [Act.put, List.setIfInBounds_toArray, List.set_cons_zero, List.set_cons_succ]
                            refine wpAnyH_take (i := 11) (oi := Oper.mk _ _ _ _ _ _) (v := ?_) rfl (by kernel_rfl) (by kernel_rfl) (by kernel_rfl) (fun _ _ _ h => h) (Or.inl ⟨by rfl, ?_⟩) (by assumption) ?_
                            rotate_left
                            · (intro w hSw; (try dsimp only at hSw); go_simp; try with_reducible rfl)
                            try simp only [Act.put, List.setIfInBounds_toArray, List.set_cons_zero, List.set_cons_succ]
                            refine wpAnyH_take (i := 12) (oi := Oper.mk _ _ _ _ _ _) (v := ?_) rfl (by kernel_rfl) (by kernel_rfl) (by kernel_rfl) (fun _ _ _ h => h) (Or.inl ⟨by rfl, ?_⟩) (by assumption) ?_
                            rotate_left
                            · (intro w hSw; (try dsimp only at hSw); go_simp; try with_reducible rfl)
                            try simp only [Act.put, List.setIfInBounds_toArray, List.set_cons_zero, List.set_cons_succ]
                            refine wpAnyH_take (i := 13) (oi := Oper.mk _ _ _ _ _ _) (v := ?_) rfl (by kernel_rfl) (by kernel_rfl) (by kernel_rfl) (fun _ _ _ h => h) (Or.inl ⟨by rfl, ?_⟩) (by assumption) ?_
                            rotate_left
                            · (intro w hSw; (try dsimp only at hSw); go_simp; try with_reducible rfl)
                            try simp only [Act.put, List.setIfInBounds_toArray, List.set_cons_zero, List.set_cons_succ]
                            refine wpAnyH_take (i := 14) (oi := Oper.mk _ _ _ _ _ _) (v := ?_) rfl (by kernel_rfl) (by kernel_rfl) (by kernel_rfl) (fun _ _ _ h => h) (Or.inl ⟨by rfl, ?_⟩) (by assumption) ?_
                            rotate_left
                            · (intro w hSw; (try dsimp only at hSw); go_simp; try with_reducible rfl)
                            try simp only [Act.put, List.setIfInBounds_toArray, List.set_cons_zero, List.set_cons_succ]
                            refine wpAnyH_done (by kernel_rfl) ?_ _
                            have HR2 := K4
                            clear K0 K2 K4
                            go_wp2_with fail
                            have K0 := Lib.hid (HR2.out.on (Below.refl _ _).drew)
                            refine wp_region_held_drew (S := fun W => (W.cell? ⟨w.heap.size, 0, none⟩ = some (.slice A1 n1 c1) ∧ W.cell? ⟨w.heap.size, 1, none⟩ = some (.slice A2 n2 c2) ∧ W.cell? ⟨w.heap.size, 2, none⟩ = some (.slice A3 n3 c3)) ∧ W.cell? ⟨nb, 0, none⟩ = some (.slice T1 z3 a1) ∧ W.cell? ⟨nb, 1, none⟩ = some (.slice T2 z4 a2)) (by kernel_rfl) (⟨⟨K0.out.g0, K0.out.g1, K0.out.g2⟩, K0.out.n.y0, K0.out.n.y1⟩) (fun hHeld => ?_)
                            refine wpAnyH_take (i := 0) (oi := Oper.mk _ _ _ _ _ _) (v := ?_) rfl (by kernel_rfl) (by kernel_rfl) (by kernel_rfl) (fun _ _ _ h => h) (Or.inl ⟨by rfl, ?_⟩) (by assumption) ?_
                            rotate_left
                            · (intro w hSw; (try dsimp only at hSw); go_simp; try with_reducible rfl)
                            try simp only [Act.put, List.setIfInBounds_toArray, List.set_cons_zero, List.set_cons_succ]
                            refine wpAnyH_take (i := 1) (oi := Oper.mk _ _ _ _ _ _) (v := ?_) rfl (by kernel_rfl) (by kernel_rfl) (by kernel_rfl) (fun _ _ _ h => h) (Or.inl ⟨by rfl, ?_⟩) (by assumption) ?_
                            rotate_left
                            · (intro w hSw; (try dsimp only at hSw); go_simp; try with_reducible rfl)
                            try simp only [Act.put, List.setIfInBounds_toArray, List.set_cons_zero, List.set_cons_succ]
                            refine wpAnyH_take (i := 2) (oi := Oper.mk _ _ _ _ _ _) (v := ?_) rfl (by kernel_rfl) (by kernel_rfl) (by kernel_rfl) (fun _ _ _ h => h) (Or.inl ⟨by rfl, ?_⟩) (by assumption) ?_
                            rotate_left
                            · (intro w hSw; (try dsimp only at hSw); go_simp; try with_reducible rfl)
                            try simp only [Act.put, List.setIfInBounds_toArray, List.set_cons_zero, List.set_cons_succ]
                            refine wpAnyH_take (i := 3) (oi := Oper.mk _ _ _ _ _ _) (v := ?_) rfl (by kernel_rfl) (by kernel_rfl) (by kernel_rfl) (fun _ _ _ h => h) (Or.inl ⟨by rfl, ?_⟩) (by assumption) ?_
                            rotate_left
                            · (intro w hSw; (try dsimp only at hSw); go_simp; try with_reducible rfl)
                            try simp only [Act.put, List.setIfInBounds_toArray, List.set_cons_zero, List.set_cons_succ]
                            refine wpAnyH_take (i := 5) (oi := Oper.mk _ _ _ _ _ _) (v := ?_) rfl (by kernel_rfl) (by kernel_rfl) (by kernel_rfl) (fun _ _ _ h => h) (Or.inl ⟨by rfl, ?_⟩) (by assumption) ?_
                            rotate_left
                            · (intro w hSw; (try dsimp only at hSw); go_simp; try with_reducible rfl)
                            try simp only [Act.put, List.setIfInBounds_toArray, List.set_cons_zero, List.set_cons_succ]
                            refine wpAnyH_take (i := 8) (oi := Oper.mk _ _ _ _ _ _) (v := ?_) rfl (by kernel_rfl) (by kernel_rfl) (by kernel_rfl) (fun _ _ _ h => h) (Or.inl ⟨by rfl, ?_⟩) (by assumption) ?_
                            rotate_left
                            · (intro w hSw; (try dsimp only at hSw); go_simp; try with_reducible rfl)
                            try simp only [Act.put, List.setIfInBounds_toArray, List.set_cons_zero, List.set_cons_succ]
                            generalize hwd : World.drew _ = wd at *
                            clear hwd
                            refine wpAnyH_ready (rs := [4]) (by kernel_rfl) (by simp) ?_
                            refine AllReadyH.cons (o := Oper.mk _ _ _ _ _ _) rfl (fun K hK => ?_) AllReadyH.nil
                            go_simp
                            have BA := Lib.hid ((Below.refl wd.heap.size wd).alloc (Nat.le_refl _) (.cells #[.int .i64 f, .int .i64 h] 3))
                            have K2 := Lib.hid (K0.out.on BA.out)
                            have C2 := Lib.hid (yb_made wd (.int .i64 f) (.int .i64 h) 3)
                            refine hK.out _ _ (⟨⟨K2.out.g0, K2.out.g1, K2.out.g2⟩, K2.out.n.y0, K2.out.n.y1⟩) (fun hHeld => ?_)
                            clear hK K
                            try simp only [Act.put, List.setIfInBounds_toArray, List.set_cons_zero, List.set_cons_succ]
                            generalize hlb : wd.heap.size = fb at *
                            clear hlb
                            generalize hw2 : wd.alloc (.cells #[.int .i64 f, .int .i64 h] 3) = w2 at *
                            clear hw2
                            refine wpAnyH_take (i := 6) (oi := Oper.mk _ _ _ _ _ _) (v := ?_) rfl (by kernel_rfl) (by kernel_rfl) (by kernel_rfl) (fun _ _ _ h => h) (Or.inl ⟨by rfl, ?_⟩) (by assumption) ?_
                            rotate_left
                            · (intro w hSw; (try dsimp only at hSw); go_simp; try with_reducible rfl)
                            try simp only [Act.put, List.setIfInBounds_toArray, List.set_cons_zero, List.set_cons_succ]
                            refine wpAnyH_ready (rs := [7]) (by kernel_rfl) (by simp) ?_
                            refine AllReadyH.cons (o := Oper.mk _ _ _ _ _ _) rfl (fun K hK => ?_) AllReadyH.nil
                            obtain ⟨cc0, cc1, _⟩ := C2.out
                            go_simp
                            refine hK.out _ _ (⟨⟨K2.out.g0, K2.out.g1, K2.out.g2⟩, K2.out.n.y0, K2.out.n.y1⟩) (fun hHeld => ?_)
                            clear hK K cc0 cc1
                            try simp only [Act.put, List.setIfInBounds_toArray, List.set_cons_zero, List.set_cons_succ]
                            have hcall := HA4.out w2 K2.out.below K2.out.nw
                            refine wpAnyH_ready (rs := [9]) (by kernel_rfl) (by simp) ?_
                            refine AllReadyH.cons (o := Oper.mk _ _ _ _ _ _) rfl (fun K hK => ?_) AllReadyH.nil
                            go_simp
                            go_wp2_with (go_at_call 11; refine hcall.mono ?_; rintro e w4 ⟨rfl, hb4⟩; have K4 := Lib.hid (K2.out.on hb4))
                            refine hK.out _ _ (⟨⟨K4.out.g0, K4.out.g1, K4.out.g2⟩, K4.out.n.y0, K4.out.n.y1⟩) (fun hHeld => ?_)
                            clear hK K hb4 hcall C2 BA
                            try simp only [Act.put, List.setIfInBounds_toArray, List.set_cons_zero, List.set_cons_succ]
                            refine wpAnyH_take (i := 10) (oi := Oper.mk _ _ _ _ _ _) (v := ?_) rfl (by kernel_rfl) (by kernel_rfl) (by kernel_rfl) (fun _ _ _ h => h) (Or.inl ⟨by rfl, ?_⟩) (by assumption) ?_
                            rotate_left
                            · (intro w hSw; (try dsimp only at hSw); go_simp; try with_reducible rfl)
                            try simp only [Act.put, List.setIfInBounds_toArray, List.set_cons_zero, List.set_cons_succ]
                            refine wpAnyH_take (i := 11) (oi := Oper.mk _ _ _ _ _ _) (v := ?_) rfl (by kernel_rfl) (by kernel_rfl) (by kernel_rfl) (fun _ _ _ h => h) (Or.inl ⟨by rfl, ?_⟩) (by assumption) ?_
                            rotate_left
                            · (intro w hSw; (try dsimp only at hSw); go_simp; try with_reducible rfl)
                            try simp only [Act.put, List.setIfInBounds_toArray, List.set_cons_zero, List.set_cons_succ]
                            refine wpAnyH_take (i := 12) (oi := Oper.mk _ _ _ _ _ _) (v := ?_) rfl (by kernel_rfl) (by kernel_rfl) (by kernel_rfl) (fun _ _ _ h => h) (Or.inl ⟨by rfl, ?_⟩) (by assumption) ?_
                            rotate_left
                            · (intro w hSw; (try dsimp only at hSw); go_simp; try with_reducible rfl)
                            try simp only [Act.put, List.setIfInBounds_toArray, List.set_cons_zero, List.set_cons_succ]
                            refine wpAnyH_take (i := 13) (oi := Oper.mk _ _ _ _ _ _) (v := ?_) rfl (by kernel_rfl) (by kernel_rfl) (by kernel_rfl) (fun _ _ _ h => h) (Or.inl ⟨by rfl, ?_⟩) (by assumption) ?_
                            rotate_left
                            · (intro w hSw; (try dsimp only at hSw); go_simp; try with_reducible rfl)
                            try simp only [Act.put, List.setIfInBounds_toArray, List.set_cons_zero, List.set_cons_succ]
                            refine wpAnyH_take (i := 14) (oi := Oper.mk _ _ _ _ _ _) (v := ?_) rfl (by kernel_rfl) (by kernel_rfl) (by kernel_rfl) (fun _ _ _ h => h) (Or.inl ⟨by rfl, ?_⟩) (by assumption) ?_
                            rotate_left
                            · (intro w hSw; (try dsimp only at hSw); go_simp; try with_reducible rfl)
                            try simp only [Act.put, List.setIfInBounds_toArray, List.set_cons_zero, List.set_cons_succ]
                            refine wpAnyH_done (by kernel_rfl) ?_ _
                            have HR3 := K4
                            clear K0 K2 K4
                            go_wp2_with fail
                            exact ⟨⟨2, by omega, rfl, HR3.out⟩, by simp [intOf]⟩
                          · obtain ⟨g0, g1, g2⟩ := (show _ ∧ _ ∧ _ from ⟨HR.out.g0, HR.out.g1, HR.out.g2⟩)
                            obtain ⟨m0, m1, _⟩ := HR.out.m
                            obtain ⟨y0, y1, _⟩ := HR.out.n
                            have hfn := HFn.out
                            go_wp2_with fail
                            have hcall := HMV.out wr HR.out.below HR.out.mw
                            refine hcall.mono ?_
                            rintro e w20 ⟨rfl, hb⟩
                            have HB20 := Lib.hid (HR.out.below.trans (hb.mono HR.out.below.size))
                            clear hb hcall
                            have HWk := Lib.hid (HW.out w20 HB20.out)
                            go_wp2_with fail
                            refine HWk.out.mono ?_
                            rintro e w21 ⟨rfl, hb⟩
                            have HB21 := Lib.hid (HB20.out.trans (hb.mono HB20.out.size))
                            clear hb
                            go_wp2_with fail
                            go_ret
                            exact ⟨rfl, HB21.out⟩
end Go.Proofs.YtfcmpfaonpnbaaaDoor.Vl
/- ValueTurns: for any input the law answers true, and each argument reads as before: the tied card. -/
namespace Go.Proofs.YtfcmpfaonpnbaaaDoor.valueTurns
open Go.RowKit Go.ChangeShapes Go.WideShapes Go.ChangeAt Go.WideMaps Go.WideElems
open Go.ChangeMaps (setBlock shut_map_nil open_string shut_string keptBut_setBlock frozen?_setBlock heap_setBlock_same)

theorem gTabType : (Tryd.prog.globals[0]?).map (·.type) = some 132 := by kernel_rfl
theorem cellsTab : Tryd.prog.cellsOf 132 = 20 := by kernel_rfl
theorem cellsU64 : Tryd.prog.cellsOf 110 = 1 := by kernel_rfl
theorem tabOk {W : World} (h : laidMetH Tryd.prog Rows.valueTurnsRow.laid W) : TabOk W := by
  have h2 := h.filter (fun x => x.1 == "internal/strconv.uint64pow10")
  rw [MakeChecks.laidMetH_plain _ _ _ (by kernel_rfl)] at h2
  exact Lib.tabIs_of_head (rest := []) gTab gTabType Tryd.underlying132 Tryd.underlying110 cellsU64 cellsTab h2
theorem cellsInt : Tryd.prog.cellsOf 3 = 1 := by kernel_rfl

set_option maxRecDepth 100000 in
theorem contract (H : Type) (enc : TypeId × Value → H) (W : World) (base : Nat) (args : Array Value) (ds gs : List (DataW H)) (before : List MemPlace)
    (hval : ∀ (j : Nat) t v, Tryd.f6.params[j]? = some t → args[j]? = some v → Value.okWide Tryd.prog W .any base t v)
    (hW : DataW.Whole enc Tryd.prog Tryd.f6.params.toList Rows.valueTurnsSpec.vars false W args.toList ds gs before) (hR : (DataW.weightsEach Tryd.prog (Tryd.f6.params.toList ++ Rows.valueTurnsSpec.plain.varTypes Tryd.prog) (ds ++ gs)).all (· ≤ reachBytes) = true) (hL : laidMetH Tryd.prog Rows.valueTurnsRow.laid W) :
    Calls Tryd.prog 6 args W fun e W' => ∃ v, e = .returned v ∧ Rows.valueTurnsSpec.post enc Tryd.prog Tryd.f6 false true false false W args v W' := by
  have hW' := hW
  obtain ⟨p, q, hA0, hV, rfl, hfz, hnd⟩ := hW
  have hA : DataW.TrodAll enc Tryd.prog W 0 (fun _ => true) true Tryd.f6.params.toList args.toList ds p := hA0
  have hfit : ∀ (j : Nat) t d, Tryd.f6.params.toList[j]? = some t → ds[j]? = some d → Fits Tryd.prog t d := fun j t d h1 h2 => fits_each (fun m hm => of_decide_eq_true (List.all_eq_true.1 hR m hm)) j t d (by rw [List.getElem?_append_left (List.getElem?_eq_some_iff.1 h1).1]; exact h1) (by rw [List.getElem?_append_left (List.getElem?_eq_some_iff.1 h2).1]; exact h2)
  rw [Tryd.params6] at hfit
  rw [Tryd.params6] at hA hval
  obtain ⟨v0, vs0, d0, ds0, p0, q0, hargs, rfl, rfl, h0, r0⟩ := trodAll_cons hA
  obtain ⟨v1, vs1, d1, ds1, p1, q1, rfl, rfl, rfl, h1, r1⟩ := trodAll_cons r0
  obtain ⟨v2, vs2, d2, ds2, p2, q2, rfl, rfl, rfl, h2, r2⟩ := trodAll_cons r1
  obtain ⟨v3, vs3, d3, ds3, p3, q3, rfl, rfl, rfl, h3, r3⟩ := trodAll_cons r2
  obtain ⟨v4, vs4, d4, ds4, p4, q4, rfl, rfl, rfl, h4, r4⟩ := trodAll_cons r3
  obtain ⟨v5, vs5, d5, ds5, p5, q5, rfl, rfl, rfl, h5, r5⟩ := trodAll_cons r4
  obtain ⟨v6, vs6, d6, ds6, p6, q6, rfl, rfl, rfl, h6, r6⟩ := trodAll_cons r5
  obtain ⟨v7, vs7, d7, ds7, p7, q7, rfl, rfl, rfl, h7, r7⟩ := trodAll_cons r6
  obtain ⟨rfl, rfl, rfl⟩ := trodAll_nil r7
  obtain rfl : args = #[v0, v1, v2, v3, v4, v5, v6, v7] := by cases args; simp_all
  obtain ⟨g0, A0_0, c0_0, A0_1, c0_1, A0_2, c0_2, rfl, hg0⟩ := Dt.open_sig (hval 0 26 v0 rfl rfl) h0 (hfit 0 26 d0 rfl rfl)
  obtain ⟨g1, A1_0, c1_0, A1_1, c1_1, rfl, hg1⟩ := Dt.open_world (hval 1 30 v1 rfl rfl) h1 (hfit 1 30 d1 rfl rfl)
  obtain ⟨a2, rfl, rfl, rfl, wa2⟩ := Go.ChangeShapes.open_int Tryd.underlying3 (hval 2 3 v2 rfl rfl) h2
  obtain ⟨A3, cap3, zs3, rfl, hc3, hz3, hl3, hm3⟩ := open_ints_all Tryd.underlying27 Tryd.underlying3 cellsInt (hval 3 27 v3 rfl rfl) h3
  unfold maxLen at hm3
  obtain ⟨a4, rfl, rfl, rfl, wa4⟩ := Go.ChangeShapes.open_int Tryd.underlying3 (hval 4 3 v4 rfl rfl) h4
  obtain ⟨a5, rfl, rfl, rfl, wa5⟩ := Go.ChangeShapes.open_int Tryd.underlying3 (hval 5 3 v5 rfl rfl) h5
  obtain ⟨A6, cap6, zs6, rfl, hc6, hz6, hl6, hm6⟩ := open_ints_all Tryd.underlying27 Tryd.underlying3 cellsInt (hval 6 27 v6 rfl rfl) h6
  unfold maxLen at hm6
  obtain ⟨a7, rfl, rfl, rfl, wa7⟩ := Go.ChangeShapes.open_int Tryd.underlying3 (hval 7 3 v7 rfl rfl) h7
  refine (Vl.valueTurns_all (w := W) hg0 hg1 a2 zs3 A3 cap3 a4 a5 zs6 A6 cap6 a7 (bounds_i64 wa2) hc3 hz3 hl3 hm3 (bounds_i64 wa4) (bounds_i64 wa5) hc6 hz6 hl6 hm6 (bounds_i64 wa7) (tabOk hL)).mono fun e W' ⟨he, hb⟩ => ⟨_, he, ?_⟩
  exact law_post laidOut (by kernel_rfl) rfl Tryd.underlying4 rfl rfl hW' hb

noncomputable def laidWorld (os : Os) : World := World.doorLaid Tryd.prog 24 os
theorem laid_met (os : Os) : laidMetH Tryd.prog Rows.valueTurnsRow.laid ((laidWorld os).forCall (fun _ _ => 0) ⟨#[], #[.agg #[.slice none 0 0, .slice none 0 0, .slice none 0 0], .agg #[.slice none 0 0, .slice none 0 0], .int .i64 0, .slice none 0 0, .int .i64 0, .int .i64 0, .slice none 0 0, .int .i64 0], []⟩).memory :=
  laidMetH_of_parts3 (fuel := 8) (laidMet_of_run' 8 (by kernel_rfl) (by kernel_rfl)) (by kernel_rfl) (by kernel_rfl)
theorem reads (os : Os) {H : Type} (enc : TypeId × Value → H) : ∃ x, DataW.whole enc Tryd.prog ((laidWorld os).forCall (fun _ _ => 0) ⟨#[], #[.agg #[.slice none 0 0, .slice none 0 0, .slice none 0 0], .agg #[.slice none 0 0, .slice none 0 0], .int .i64 0, .slice none 0 0, .int .i64 0, .int .i64 0, .slice none 0 0, .int .i64 0], []⟩).memory Tryd.f6.params.toList Rows.valueTurnsSpec.vars false #[Value.agg #[.slice none 0 0, .slice none 0 0, .slice none 0 0], .agg #[.slice none 0 0, .slice none 0 0], .int .i64 0, .slice none 0 0, .int .i64 0, .int .i64 0, .slice none 0 0, .int .i64 0].toList 8 = some ([.agg [.nil, .nil, .nil], .agg [.nil, .nil], .lit (.int .i64 0), .nil, .lit (.int .i64 0), .lit (.int .i64 0), .nil, .lit (.int .i64 0)], [], x) :=
  ⟨[], by kernel_rfl⟩

set_option maxRecDepth 100000 in
theorem lifted (os : Os) (started : os.Started) (H : Type) (enc : TypeId × Value → H) (F : Stop.Interp) :
    ReturnsInHanded {} Tryd.checked os 6 .any ((OpenSpec.ofChange Rows.valueTurnsSpec).preRow enc Tryd.prog Tryd.f6 Rows.valueTurnsRow.domain false Rows.valueTurnsRow.laid) (((OpenSpec.ofChange Rows.valueTurnsSpec).at F).post enc Tryd.prog Tryd.f6 false true false false) := by
  obtain ⟨places, hx⟩ := reads os enc
  refine returnsInHanded_of_row (C := Tryd.checked) (s := OpenSpec.ofChange Rows.valueTurnsSpec) own started (by kernel_rfl) Tryd.func6
    (witness_row_at (enc := enc) (C := Tryd.checked) false (laidWorld os) #[.agg #[.slice none 0 0, .slice none 0 0, .slice none 0 0], .agg #[.slice none 0 0, .slice none 0 0], .int .i64 0, .slice none 0 0, .int .i64 0, .int .i64 0, .slice none 0 0, .int .i64 0] rfl (by kernel_rfl) (by kernel_rfl) (by kernel_rfl)
      (OpenSpec.preRow_of_cond 8 hx (by kernel_rfl) (fun k hk => by cases hk) (by kernel_rfl) (laid_met os))) ?_
  intro W base args ds gs before hval hW _ _ hR hL _ _
  exact contract H enc W base args ds gs before hval hW hR hL

theorem said : Rows.ValueTurnsSaid :=
  OpenClaim.holds_of_cond 6 Tryd.f6 rfl rfl rfl rfl rfl rfl rfl ⟨rfl, rfl, rfl, rfl, rfl⟩ rfl rfl rfl rfl rfl (by kernel_rfl) Tryd.func6 (by kernel_rfl)
    (of_decide_eq_true (by kernel_rfl)) (by unfold Func.isWrapper; first | (rw [if_pos (by decide +kernel)]; kernel_rfl) | (rw [if_neg (by decide +kernel)]; exact ⟨rfl, rfl⟩))
    (fun os started H enc _ F => by rw [OpenClaim.pre_eq_preRow]; exact lifted os started H enc F)

theorem plain (f : FuncId) (fn : Func) (hf : Tryd.pinned.checked.prog.funcNamed "gantry/gantrylaw09.ValueTurns" = some f) (hfn : Tryd.pinned.checked.prog.funcs[f]? = some fn) :
    false = Tryd.pinned.checked.prog.looks [] ∧ ∀ (j : Nat) t, fn.params[j]? = some t → Tryd.pinned.checked.prog.wantsStandIn t = false := by
  obtain rfl : f = 6 := Option.some.inj ((show Tryd.prog.funcNamed "gantry/gantrylaw09.ValueTurns" = some 6 by kernel_rfl).symm.trans hf) |>.symm
  obtain rfl : fn = Tryd.f6 := (Option.some.inj (Tryd.func6.symm.trans hfn)).symm
  refine ⟨by kernel_rfl, fun j t ht => ?_⟩
  have hm := Array.mem_of_getElem? ht
  have hall : (Tryd.f6.params.toList.all fun u => !Tryd.prog.wantsStandIn u) = true := by kernel_rfl
  exact (show Tryd.prog.wantsStandIn t = false by simpa using List.all_eq_true.1 hall t (by simpa using hm))

/-- the card -/
theorem card : Rows.ValueTurnsCardSaid :=
  Claim7.holds_tied_plain_at .later [] _ _ _ _ said (fun _ h => by cases h) (by kernel_rfl) (fun _ h => by cases h) valueTurns_row_tie rfl ⟨rfl, rfl⟩ (by kernel_rfl) rfl plain (by kernel_rfl)
end Go.Proofs.YtfcmpfaonpnbaaaDoor.valueTurns
