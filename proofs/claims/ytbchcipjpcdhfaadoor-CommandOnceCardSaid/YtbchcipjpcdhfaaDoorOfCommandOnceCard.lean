import Derived.Test.YtbchcipjpcdhfaaDoorMp
import Derived.Test.YtbchcipjpcdhfaaDoorMr
import Derived.Test.YtbchcipjpcdhfaaDoorMs
import Derived.Test.YtbchcipjpcdhfaaDoorCards
import Derived.Test.YtbchcipjpcdhfaaDoorTie
import Derived.Test.YtbchcipjpcdhfaaDoorMd
import Derived.Test.YtbchcipjpcdhfaaDoorMb
/- merged by wip/merge.py from: Law8Once CommandOnceCard -/
/- CommandOnce: unlike commands have unlike texts, and unlike lists. No condition. -/
namespace Go.Proofs.YtbchcipjpcdhfaaDoor.Cm
open Go.RowKit Go.Proofs.YtbchcipjpcdhfaaDoor.Dt

theorem texte_may {c : Cmd} (h : ctextE c = 0) : mayCB c = true := by
  cases hm : mayCB c with
  | true => rfl
  | false => unfold ctextE at h; rw [hm] at h; simp at h
theorem textb_eq {c : Cmd} (h : ctextE c = 0) : ctextB c = ⟨(writeX c).textL.toArray⟩ := by
  have hm := texte_may h
  unfold ctextB
  rw [hm, if_pos rfl]
  unfold Sexp.textB
  have h2 : (writeX c).textE = 0 := by unfold ctextE at h; rw [hm, if_pos rfl] at h; exact h
  rw [h2, if_pos rfl]
theorem stands_of {c : Cmd} (h : mayCB c = true) : (writeX c).stands = true := by
  have := may_of_mayCB h
  unfold Sexp.may at this
  rw [Bool.and_eq_true] at this
  exact this.2
theorem once_x {a b : Cmd} (ha : mayCB a = true) (hb : mayCB b = true) : eqB (writeX a) (writeX b) = eqB a b := by
  rw [Bool.eq_iff_iff, eqB_true, eqB_true]
  exact ⟨fun h => writeX_once (eqB_true.1 ha) (eqB_true.1 hb) h, fun h => by rw [h]⟩
theorem once_s {a b : Cmd} (ha : ctextE a = 0) (hb : ctextE b = 0) : eqB (ctextB a) (ctextB b) = eqB a b := by
  rw [← once_x (texte_may ha) (texte_may hb), Bool.eq_iff_iff, eqB_true, eqB_true, textb_eq ha, textb_eq hb]
  refine ⟨fun h => text_once (stands_of (texte_may ha)) (stands_of (texte_may hb)) ?_, fun h => by rw [h]⟩
  have h2 := congrArg Lx.bs h
  unfold Lx.bs at h2
  simpa using h2
/-- two commands boxed -/
structure Box2 (w w2 : World) (a b : Cmd) (A1 A2 A3 A4 B1 B2 B3 B4 : Option Addr) (c1 c2 c3 c4 d1 d2 d3 d4 : Nat) : Prop where
  n : w2.heap[w.heap.size]? = some (.cells #[.int .i8 a.kind, .string a.name, .int .i64 a.n, .slice A1 a.l.length c1, .slice A2 a.args.length c2, .slice A3 a.params.length c3, .string a.res, .slice A4 a.terms.length c4] 28 (0, 0))
  m : w2.heap[w.heap.size + 1]? = some (.cells #[.int .i8 b.kind, .string b.name, .int .i64 b.n, .slice B1 b.l.length d1, .slice B2 b.args.length d2, .slice B3 b.params.length d3, .string b.res, .slice B4 b.terms.length d4] 28 (0, 0))
  b : Below w.heap.size w w2
section
variable {w w2 w' : World} {a b : Cmd} {A1 A2 A3 A4 B1 B2 B3 B4 : Option Addr} {c1 c2 c3 c4 d1 d2 d3 d4 : Nat}
theorem Box2.on (h : Box2 w w2 a b A1 A2 A3 A4 B1 B2 B3 B4 c1 c2 c3 c4 d1 d2 d3 d4) (hb : Below w2.heap.size w2 w') : Box2 w w' a b A1 A2 A3 A4 B1 B2 B3 B4 c1 c2 c3 c4 d1 d2 d3 d4 :=
  ⟨(hb.block _ (lt_of_block h.n)).trans h.n, (hb.block _ (lt_of_block h.m)).trans h.m, h.b.trans (hb.mono h.b.size)⟩
theorem Box2.make (w : World) (a b : Cmd) (A1 A2 A3 A4 B1 B2 B3 B4 : Option Addr) (c1 c2 c3 c4 d1 d2 d3 d4 : Nat) :
    Box2 w ((w.alloc (.cells #[.int .i8 a.kind, .string a.name, .int .i64 a.n, .slice A1 a.l.length c1, .slice A2 a.args.length c2, .slice A3 a.params.length c3, .string a.res, .slice A4 a.terms.length c4] 28)).alloc (.cells #[.int .i8 b.kind, .string b.name, .int .i64 b.n, .slice B1 b.l.length d1, .slice B2 b.args.length d2, .slice B3 b.params.length d3, .string b.res, .slice B4 b.terms.length d4] 28)) a b A1 A2 A3 A4 B1 B2 B3 B4 c1 c2 c3 c4 d1 d2 d3 d4 := by
  refine ⟨(Below.heap_alloc _ _ _ (by simp)).trans (blk_new w _), ?_, ((Below.refl w.heap.size w).alloc (Nat.le_refl _) _).alloc (by simp) _⟩
  have hh := blk_new (w.alloc (.cells #[.int .i8 a.kind, .string a.name, .int .i64 a.n, .slice A1 a.l.length c1, .slice A2 a.args.length c2, .slice A3 a.params.length c3, .string a.res, .slice A4 a.terms.length c4] 28)) (.cells #[.int .i8 b.kind, .string b.name, .int .i64 b.n, .slice B1 b.l.length d1, .slice B2 b.args.length d2, .slice B3 b.params.length d3, .string b.res, .slice B4 b.terms.length d4] 28)
  have e : (w.alloc (.cells #[.int .i8 a.kind, .string a.name, .int .i64 a.n, .slice A1 a.l.length c1, .slice A2 a.args.length c2, .slice A3 a.params.length c3, .string a.res, .slice A4 a.terms.length c4] 28)).heap.size = w.heap.size + 1 := by simp
  rw [e] at hh
  exact hh
end
set_option maxRecDepth 100000 in
set_option maxHeartbeats 12800000 in
theorem once_all {w : World} {a b : Cmd} {A1 A2 A3 A4 B1 B2 B3 B4 : Option Addr} {c1 c2 c3 c4 d1 d2 d3 d4 : Nat} (ha : CmdAt w A1 c1 A2 c2 A3 c3 A4 c4 a) (hb : CmdAt w B1 d1 B2 d2 B3 d3 B4 d4 b) (ht : TabOk w) :
    Calls Tryd.prog 4 #[agC A1 c1 A2 c2 A3 c3 A4 c4 a, agC B1 d1 B2 d2 B3 d3 B4 d4 b] w fun e w' => e = .returned (.bool true) ∧ Below w.heap.size w w' := by
  have HB2 := Lib.hid (Box2.make w a b A1 A2 A3 A4 B1 B2 B3 B4 c1 c2 c3 c4 d1 d2 d3 d4)
  have HA := Lib.hid ha
  have HB := Lib.hid hb
  have HT := Lib.hid ht
  have HW := Lib.hid (fun W (hW : Below w.heap.size w W) => wakes8_any W (ht.on hW))
  have HGa := Lib.hid (fun W (hW : Below w.heap.size w W) => great8_any (ha.on hW))
  have HGb := Lib.hid (fun W (hW : Below w.heap.size w W) => great8_any (hb.on hW))
  have HSm := Lib.hid (fun W (hW : Below w.heap.size w W) => rcsame_any (ha.on hW) (hb.on hW))
  clear ha hb ht
  unfold agC at *
  go_enter Tryd.func4, Tryd.ntmps4
  go_upto_region 1 with fail
  generalize ((w.alloc (.cells #[.int .i8 a.kind, .string a.name, .int .i64 a.n, .slice A1 a.l.length c1, .slice A2 a.args.length c2, .slice A3 a.params.length c3, .string a.res, .slice A4 a.terms.length c4] 28)).alloc (.cells #[.int .i8 b.kind, .string b.name, .int .i64 b.n, .slice B1 b.l.length d1, .slice B2 b.args.length d2, .slice B3 b.params.length d3, .string b.res, .slice B4 b.terms.length d4] 28)) = w2 at *
  obtain ⟨n0, n1, n2, n3, n4, n5, n6, n7, nf⟩ := eight_cells HB2.out.n
  go_wp2_with fail
  refine (HGa.out w2 HB2.out.b).mono ?_
  rintro e w3 ⟨⟨ga, rfl, hga⟩, hb3⟩
  have HB3 := Lib.hid (HB2.out.on hb3)
  clear hb3 n0 n1 n2 n3 n4 n5 n6 n7 nf
  cases ga with
  | true =>
    clear hga
    go_wp2_with fail
    refine (HW.out w3 HB3.out.b).mono ?_
    rintro e w4 ⟨rfl, hb4⟩
    have HB4 := Lib.hid (HB3.out.b.trans (hb4.mono HB3.out.b.size))
    clear hb4
    go_wp2_with fail
    go_ret
    exact ⟨rfl, HB4.out⟩
  | false =>
    have HOa := Lib.hid (hga rfl)
    clear hga
    obtain ⟨m0, m1, m2, m3, m4, m5, m6, m7, mf⟩ := eight_cells HB3.out.m
    go_wp2_with fail
    refine (HGb.out w3 HB3.out.b).mono ?_
    rintro e w4 ⟨⟨gb, rfl, hgb⟩, hb4⟩
    have HB4 := Lib.hid (HB3.out.on hb4)
    clear hb4 m0 m1 m2 m3 m4 m5 m6 m7 mf
    cases gb with
    | true =>
      clear hgb
      go_wp2_with fail
      refine (HW.out w4 HB4.out.b).mono ?_
      rintro e w5 ⟨rfl, hb5⟩
      have HB5 := Lib.hid (HB4.out.b.trans (hb5.mono HB4.out.b.size))
      clear hb5
      go_wp2_with fail
      go_ret
      exact ⟨rfl, HB5.out⟩
    | false =>
      have HOb := Lib.hid (hgb rfl)
      clear hgb
      have HTa := Lib.hid (fun W (hW : Below w.heap.size w W) => ctext_any (HA.out.on hW) HOa.out.small (HT.out.on hW) (fun _ => text_short HOa.out (cmdAt_ns HA.out)))
      have HTb := Lib.hid (fun W (hW : Below w.heap.size w W) => ctext_any (HB.out.on hW) HOb.out.small (HT.out.on hW) (fun _ => text_short HOb.out (cmdAt_ns HB.out)))
      have HXa := Lib.hid (fun W (hW : Below w.heap.size w W) => csexp_any HA.out hW HOa.out.small (HT.out.on hW))
      have HXb := Lib.hid (fun W (hW : Below w.heap.size w W) => csexp_any HB.out hW HOb.out.small (HT.out.on hW))
      unfold agC at *
      have HPl := Lib.hid (fun (h1 : ctextE a = 0) (h2 : ctextE b = 0) => And.intro (once_s h1 h2) (And.intro (once_x (texte_may h1) (texte_may h2)) (And.intro (texte_may h1) (texte_may h2))))
      obtain ⟨n0, n1, n2, n3, n4, n5, n6, n7, nf⟩ := eight_cells HB4.out.n
      go_wp2_with fail
      refine (HTa.out w4 HB4.out.b).mono ?_
      rintro e w5 ⟨rfl, hb5⟩
      have HB5 := Lib.hid (HB4.out.on hb5)
      clear hb5 n0 n1 n2 n3 n4 n5 n6 n7 nf
      obtain ⟨m0, m1, m2, m3, m4, m5, m6, m7, mf⟩ := eight_cells HB5.out.m
      generalize ctextE a = ea at *
      generalize ctextB a = sa at *
      go_wp2_with fail
      refine (HTb.out w5 HB5.out.b).mono ?_
      rintro e w6 ⟨rfl, hb6⟩
      have HB6 := Lib.hid (HB5.out.on hb6)
      clear hb6 m0 m1 m2 m3 m4 m5 m6 m7 mf
      obtain ⟨n0, n1, n2, n3, n4, n5, n6, n7, nf⟩ := eight_cells HB6.out.n
      generalize ctextE b = eb at *
      generalize ctextB b = sb at *
      go_wp2_with fail
      refine (HXa.out w6 HB6.out.b).mono ?_
      rintro e w7 ⟨x, Ax, cx, ⟨rfl, hx⟩, hxr, hb7⟩
      generalize hg1 : (if mayCB a = true then (0 : Int) else 2) = g1 at *
      have HG1 := Lib.hid hg1
      clear hg1
      have HXr := Lib.hid (hxr _ (Keeps.refl _ _))
      have HXe := Lib.hid hx
      have B7 := Lib.hid ((Below.refl w7.heap.size w7).alloc (Nat.le_refl _) (.cells #[.int .i8 x.kind, .string x.text, .slice Ax x.l.length cx] 30))
      have HB7 := Lib.hid ((HB6.out.on hb7).on B7.out)
      have NX7 := Lib.hid (blk_new w7 (.cells #[.int .i8 x.kind, .string x.text, .slice Ax x.l.length cx] 30))
      have HX7 := Lib.hid (SexpR.lasts _ _ _ _ B7.out HXr.out)
      clear hb7 hxr hx n0 n1 n2 n3 n4 n5 n6 n7 nf
      go_upto_region 6 with fail
      generalize w7.alloc (.cells #[.int .i8 x.kind, .string x.text, .slice Ax x.l.length cx] 30) = w8 at *
      obtain ⟨m0, m1, m2, m3, m4, m5, m6, m7, mf⟩ := eight_cells HB7.out.m
      go_wp2_with fail
      refine (HXb.out w8 HB7.out.b).mono ?_
      rintro e w9 ⟨y, Ay, cy, ⟨rfl, hy⟩, hyr, hb9⟩
      generalize hg2 : (if mayCB b = true then (0 : Int) else 2) = g2 at *
      have HG2 := Lib.hid hg2
      clear hg2
      have HYr := Lib.hid (hyr _ (Keeps.refl _ _))
      have HYe := Lib.hid hy
      have B9 := Lib.hid ((Below.refl w9.heap.size w9).alloc (Nat.le_refl _) (.cells #[.int .i8 y.kind, .string y.text, .slice Ay y.l.length cy] 30))
      have HB9 := Lib.hid ((HB7.out.on hb9).on B9.out)
      have NY9 := Lib.hid (blk_new w9 (.cells #[.int .i8 y.kind, .string y.text, .slice Ay y.l.length cy] 30))
      have NX9 := Lib.hid ((B9.out.block _ (Nat.lt_of_lt_of_le (lt_of_block NX7.out) hb9.size)).trans ((hb9.block _ (lt_of_block NX7.out)).trans NX7.out))
      have HX9 := Lib.hid (SexpR.lasts _ _ _ _ B9.out (SexpR.lasts _ _ _ _ hb9 HX7.out))
      have HY9 := Lib.hid (SexpR.lasts _ _ _ _ B9.out HYr.out)
      clear hb9 hyr hy m0 m1 m2 m3 m4 m5 m6 m7 mf
      go_upto_region 7 with fail
      generalize w9.alloc (.cells #[.int .i8 y.kind, .string y.text, .slice Ay y.l.length cy] 30) = w10 at *
      by_cases ha0 : ea = 0
      · by_cases hb0 : eb = 0
        · obtain ⟨hs, hxx, hma, hmb⟩ := HPl.out ha0 hb0
          have hx := HXe.out
          have hy := HYe.out
          rw [hma, if_pos rfl] at hx
          rw [hmb, if_pos rfl] at hy
          have hq : (sa.toList == sb.toList) = eqB a b := (bytes_eqB sa sb).trans hs
          have HSx := Lib.hid (fun W (hW : Below w10.heap.size w10 W) => rsame_all _ x (Nat.lt_succ_self _) W Ax cx y Ay cy (SexpR.lasts _ _ _ _ hW HX9.out) (SexpR.lasts _ _ _ _ hW HY9.out))
          have hxy : eqB x y = eqB a b := by rw [hx, hy]; exact hxx
          rw [hxy] at HSx
          generalize eqB a b = r at *
          have hg1 := HG1.out
          have hg2 := HG2.out
          rw [hma, if_pos rfl] at hg1
          rw [hmb, if_pos rfl] at hg2
          subst hg1 hg2
          clear HG1 HG2
          subst ha0
          subst hb0
          clear HPl HXe HYe hs hxx hma hmb hx hy hxy
          obtain ⟨n0, n1, n2, n3, n4, n5, n6, n7, nf⟩ := eight_cells HB9.out.n
          obtain ⟨m0, m1, m2, m3, m4, m5, m6, m7, mf⟩ := eight_cells HB9.out.m
          go_wp2_with fail
          refine (HSm.out w10 HB9.out.b).mono ?_
          rintro e w11 ⟨rfl, hb11⟩
          have HB11 := Lib.hid (HB9.out.b.trans (hb11.mono HB9.out.b.size))
          have HS11 := Lib.hid (HSx.out w11 hb11)
          obtain ⟨x0, x1, x2, _⟩ := three_cells ((hb11.block _ (lt_of_block NX9.out)).trans NX9.out)
          obtain ⟨y0, y1, y2, _⟩ := three_cells ((hb11.block _ (lt_of_block NY9.out)).trans NY9.out)
          clear hb11 n0 n1 n2 n3 n4 n5 n6 n7 nf m0 m1 m2 m3 m4 m5 m6 m7 mf
          have hrr : (r == r) = true := by simp
          go_wp2_with fail
          refine HS11.out.mono ?_
          rintro e w12 ⟨rfl, hb12⟩
          have HB12 := Lib.hid (HB11.out.trans (hb12.mono HB11.out.size))
          clear hb12 x0 x1 x2 y0 y1 y2
          go_wp2_with fail
          refine (HW.out w12 HB12.out).mono ?_
          rintro e w13 ⟨rfl, hb13⟩
          have HB13 := Lib.hid (HB12.out.trans (hb13.mono HB12.out.size))
          clear hb13
          go_wp2_with fail
          go_ret
          exact ⟨rfl, HB13.out⟩
        · have hb0' : (eb == 0) = false := beq_eq_false_iff_ne.2 hb0
          have hb0'' : (eb != 0) = true := by rw [bne, hb0']; rfl
          subst ha0
          clear HPl HXe HYe
          go_wp2_with fail
          refine (HW.out w10 HB9.out.b).mono ?_
          rintro e w11 ⟨rfl, hb11⟩
          have HB11 := Lib.hid (HB9.out.b.trans (hb11.mono HB9.out.b.size))
          clear hb11
          go_wp2_with fail
          go_ret
          exact ⟨rfl, HB11.out⟩
      · have ha0' : (ea == 0) = false := beq_eq_false_iff_ne.2 ha0
        have ha0'' : (ea != 0) = true := by rw [bne, ha0']; rfl
        clear HPl HXe HYe
        go_wp2_with fail
        refine (HW.out w10 HB9.out.b).mono ?_
        rintro e w11 ⟨rfl, hb11⟩
        have HB11 := Lib.hid (HB9.out.b.trans (hb11.mono HB9.out.b.size))
        clear hb11
        go_wp2_with fail
        go_ret
        exact ⟨rfl, HB11.out⟩
end Go.Proofs.YtbchcipjpcdhfaaDoor.Cm
/- CommandOnce: for any input the law answers true, and each argument reads as before: the tied card. -/
namespace Go.Proofs.YtbchcipjpcdhfaaDoor.commandOnce
open Go.RowKit Go.ChangeShapes Go.WideShapes Go.ChangeAt Go.WideMaps Go.WideElems
open Go.ChangeMaps (setBlock shut_map_nil open_string shut_string keptBut_setBlock frozen?_setBlock heap_setBlock_same)

theorem gTabType : (Tryd.prog.globals[0]?).map (·.type) = some 115 := by kernel_rfl
theorem cellsTab : Tryd.prog.cellsOf 115 = 20 := by kernel_rfl
theorem cellsU64 : Tryd.prog.cellsOf 103 = 1 := by kernel_rfl
theorem tabOk {W : World} (h : laidMetH Tryd.prog Rows.commandOnceRow.laid W) : TabOk W := by
  have h2 := h.filter (fun x => x.1 == "internal/strconv.uint64pow10")
  rw [MakeChecks.laidMetH_plain _ _ _ (by kernel_rfl)] at h2
  exact Lib.tabIs_of_head (rest := []) gTab gTabType Tryd.underlying115 Tryd.underlying103 cellsU64 cellsTab h2
theorem cellsInt : Tryd.prog.cellsOf 3 = 1 := by kernel_rfl

set_option maxRecDepth 100000 in
theorem contract (H : Type) (enc : TypeId × Value → H) (W : World) (base : Nat) (args : Array Value) (ds gs : List (DataW H)) (before : List MemPlace)
    (hval : ∀ (j : Nat) t v, Tryd.f4.params[j]? = some t → args[j]? = some v → Value.okWide Tryd.prog W .any base t v)
    (hW : DataW.Whole enc Tryd.prog Tryd.f4.params.toList Rows.commandOnceSpec.vars false W args.toList ds gs before) (hR : (DataW.weightsEach Tryd.prog (Tryd.f4.params.toList ++ Rows.commandOnceSpec.plain.varTypes Tryd.prog) (ds ++ gs)).all (· ≤ reachBytes) = true) (hL : laidMetH Tryd.prog Rows.commandOnceRow.laid W) :
    Calls Tryd.prog 4 args W fun e W' => ∃ v, e = .returned v ∧ Rows.commandOnceSpec.post enc Tryd.prog Tryd.f4 false true false false W args v W' := by
  have hW' := hW
  obtain ⟨p, q, hA0, hV, rfl, hfz, hnd⟩ := hW
  have hA : DataW.TrodAll enc Tryd.prog W 0 (fun _ => true) true Tryd.f4.params.toList args.toList ds p := hA0
  have hfit : ∀ (j : Nat) t d, Tryd.f4.params.toList[j]? = some t → ds[j]? = some d → Fits Tryd.prog t d := fun j t d h1 h2 => fits_each (fun m hm => of_decide_eq_true (List.all_eq_true.1 hR m hm)) j t d (by rw [List.getElem?_append_left (List.getElem?_eq_some_iff.1 h1).1]; exact h1) (by rw [List.getElem?_append_left (List.getElem?_eq_some_iff.1 h2).1]; exact h2)
  rw [Tryd.params4] at hfit
  rw [Tryd.params4] at hA hval
  obtain ⟨v0, vs0, d0, ds0, p0, q0, hargs, rfl, rfl, h0, r0⟩ := trodAll_cons hA
  obtain ⟨v1, vs1, d1, ds1, p1, q1, rfl, rfl, rfl, h1, r1⟩ := trodAll_cons r0
  obtain ⟨rfl, rfl, rfl⟩ := trodAll_nil r1
  obtain rfl : args = #[v0, v1] := by cases args; simp_all
  obtain ⟨g0, A0_0, c0_0, A0_1, c0_1, A0_2, c0_2, A0_3, c0_3, rfl, hg0⟩ := Dt.open_cmd (hval 0 28 v0 rfl rfl) h0 (hfit 0 28 d0 rfl rfl)
  obtain ⟨g1, A1_0, c1_0, A1_1, c1_1, A1_2, c1_2, A1_3, c1_3, rfl, hg1⟩ := Dt.open_cmd (hval 1 28 v1 rfl rfl) h1 (hfit 1 28 d1 rfl rfl)
  refine (Cm.once_all (w := W) hg0 hg1  (tabOk hL)).mono fun e W' ⟨he, hb⟩ => ⟨_, he, ?_⟩
  exact law_post laidOut (by kernel_rfl) rfl Tryd.underlying4 rfl rfl hW' hb

noncomputable def laidWorld (os : Os) : World := World.doorLaid Tryd.prog 24 os
theorem laid_met (os : Os) : laidMetH Tryd.prog Rows.commandOnceRow.laid ((laidWorld os).forCall (fun _ _ => 0) ⟨#[], #[.agg #[.int .i8 0, .string ⟨#[]⟩, .int .i64 0, .slice none 0 0, .slice none 0 0, .slice none 0 0, .string ⟨#[]⟩, .slice none 0 0], .agg #[.int .i8 0, .string ⟨#[]⟩, .int .i64 0, .slice none 0 0, .slice none 0 0, .slice none 0 0, .string ⟨#[]⟩, .slice none 0 0]], []⟩).memory :=
  laidMetH_of_parts3 (fuel := 8) (laidMet_of_run' 8 (by kernel_rfl) (by kernel_rfl)) (by kernel_rfl) (by kernel_rfl)
theorem reads (os : Os) {H : Type} (enc : TypeId × Value → H) : ∃ x, DataW.whole enc Tryd.prog ((laidWorld os).forCall (fun _ _ => 0) ⟨#[], #[.agg #[.int .i8 0, .string ⟨#[]⟩, .int .i64 0, .slice none 0 0, .slice none 0 0, .slice none 0 0, .string ⟨#[]⟩, .slice none 0 0], .agg #[.int .i8 0, .string ⟨#[]⟩, .int .i64 0, .slice none 0 0, .slice none 0 0, .slice none 0 0, .string ⟨#[]⟩, .slice none 0 0]], []⟩).memory Tryd.f4.params.toList Rows.commandOnceSpec.vars false #[Value.agg #[.int .i8 0, .string ⟨#[]⟩, .int .i64 0, .slice none 0 0, .slice none 0 0, .slice none 0 0, .string ⟨#[]⟩, .slice none 0 0], .agg #[.int .i8 0, .string ⟨#[]⟩, .int .i64 0, .slice none 0 0, .slice none 0 0, .slice none 0 0, .string ⟨#[]⟩, .slice none 0 0]].toList 8 = some ([.agg [.lit (.int .i8 0), .lit (.string []), .lit (.int .i64 0), .nil, .nil, .nil, .lit (.string []), .nil], .agg [.lit (.int .i8 0), .lit (.string []), .lit (.int .i64 0), .nil, .nil, .nil, .lit (.string []), .nil]], [], x) :=
  ⟨[], by kernel_rfl⟩

set_option maxRecDepth 100000 in
theorem lifted (os : Os) (started : os.Started) (H : Type) (enc : TypeId × Value → H) (F : Stop.Interp) :
    ReturnsInHanded {} Tryd.checked os 4 .any ((OpenSpec.ofChange Rows.commandOnceSpec).preRow enc Tryd.prog Tryd.f4 Rows.commandOnceRow.domain false Rows.commandOnceRow.laid) (((OpenSpec.ofChange Rows.commandOnceSpec).at F).post enc Tryd.prog Tryd.f4 false true false false) := by
  obtain ⟨places, hx⟩ := reads os enc
  refine returnsInHanded_of_row (C := Tryd.checked) (s := OpenSpec.ofChange Rows.commandOnceSpec) own started (by kernel_rfl) Tryd.func4
    (witness_row_at (enc := enc) (C := Tryd.checked) false (laidWorld os) #[.agg #[.int .i8 0, .string ⟨#[]⟩, .int .i64 0, .slice none 0 0, .slice none 0 0, .slice none 0 0, .string ⟨#[]⟩, .slice none 0 0], .agg #[.int .i8 0, .string ⟨#[]⟩, .int .i64 0, .slice none 0 0, .slice none 0 0, .slice none 0 0, .string ⟨#[]⟩, .slice none 0 0]] rfl (by kernel_rfl) (by kernel_rfl) (by kernel_rfl)
      (OpenSpec.preRow_of_cond 8 hx (by kernel_rfl) (fun k hk => by cases hk) (by kernel_rfl) (laid_met os))) ?_
  intro W base args ds gs before hval hW _ _ hR hL _ _
  exact contract H enc W base args ds gs before hval hW hR hL

theorem said : Rows.CommandOnceSaid :=
  OpenClaim.holds_of_cond 4 Tryd.f4 rfl rfl rfl rfl rfl rfl rfl ⟨rfl, rfl, rfl, rfl, rfl⟩ rfl rfl rfl rfl rfl (by kernel_rfl) Tryd.func4 (by kernel_rfl)
    (of_decide_eq_true (by kernel_rfl)) (by unfold Func.isWrapper; first | (rw [if_pos (by decide +kernel)]; kernel_rfl) | (rw [if_neg (by decide +kernel)]; exact ⟨rfl, rfl⟩))
    (fun os started H enc _ F => by rw [OpenClaim.pre_eq_preRow]; exact lifted os started H enc F)

theorem plain (f : FuncId) (fn : Func) (hf : Tryd.pinned.checked.prog.funcNamed "gantry/gantrylaw08.CommandOnce" = some f) (hfn : Tryd.pinned.checked.prog.funcs[f]? = some fn) :
    false = Tryd.pinned.checked.prog.looks [] ∧ ∀ (j : Nat) t, fn.params[j]? = some t → Tryd.pinned.checked.prog.wantsStandIn t = false := by
  obtain rfl : f = 4 := Option.some.inj ((show Tryd.prog.funcNamed "gantry/gantrylaw08.CommandOnce" = some 4 by kernel_rfl).symm.trans hf) |>.symm
  obtain rfl : fn = Tryd.f4 := (Option.some.inj (Tryd.func4.symm.trans hfn)).symm
  refine ⟨by kernel_rfl, fun j t ht => ?_⟩
  have hm := Array.mem_of_getElem? ht
  have hall : (Tryd.f4.params.toList.all fun u => !Tryd.prog.wantsStandIn u) = true := by kernel_rfl
  exact (show Tryd.prog.wantsStandIn t = false by simpa using List.all_eq_true.1 hall t (by simpa using hm))

/-- the card -/
theorem card : Rows.CommandOnceCardSaid :=
  Claim7.holds_tied_plain_at .later [] _ _ _ _ said (fun _ h => by cases h) (by kernel_rfl) (fun _ h => by cases h) commandOnce_row_tie rfl ⟨rfl, rfl⟩ (by kernel_rfl) rfl plain (by kernel_rfl)
end Go.Proofs.YtbchcipjpcdhfaaDoor.commandOnce
