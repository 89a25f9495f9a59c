import Derived.Test.YtbchcipjpcdhfaaDoorMp
import Derived.Test.YtbchcipjpcdhfaaDoorMr
import Derived.Test.YtbchcipjpcdhfaaDoorMs
import Derived.Test.YtbchcipjpcdhfaaDoorCards
import Derived.Test.YtbchcipjpcdhfaaDoorTie
import Derived.Test.YtbchcipjpcdhfaaDoorMd
import Derived.Test.YtbchcipjpcdhfaaDoorMb
/- merged by wip/merge.py from: Law8Back CommandBackCard -/
/- CommandBack: a command's list is parsed as it; a list that is parsed is the command's. No condition. -/
namespace Go.Proofs.YtbchcipjpcdhfaaDoor.Cm
open Go.RowKit Go.Proofs.YtbchcipjpcdhfaaDoor.Dt

structure CmdTiny (c : Cmd) : Prop where
  l : c.l.length ≤ 64
  args : c.args.length ≤ 3
  params : c.params.length ≤ 3
  terms : c.terms.length ≤ 16
theorem CmdTiny.small {c : Cmd} (h : CmdTiny c) : CmdSmall c := ⟨by have := h.l; omega, by have := h.args; omega, by have := h.params; omega, by have := h.terms; omega⟩
theorem tiny_bare {r : List Sexp} {k : Int} {c : Cmd} (h : bareO r k = some c) : CmdTiny c := by
  obtain ⟨_, rfl⟩ := bareO_back h
  exact ⟨Nat.zero_le _, Nat.zero_le _, Nat.zero_le _, Nat.zero_le _⟩
theorem tiny_form {h : ByteArray} {r : List Sexp} {c : Cmd} (e : formO h r = some c) : CmdTiny c := by
  unfold formO at e
  by_cases q : h = sCheck
  · rw [if_pos q] at e; exact tiny_bare e
  rw [if_neg q] at e
  by_cases q : h = sModel
  · rw [if_pos q] at e; exact tiny_bare e
  rw [if_neg q] at e
  by_cases q : h = sProof
  · rw [if_pos q] at e; exact tiny_bare e
  rw [if_neg q] at e
  by_cases q : h = sExit
  · rw [if_pos q] at e; exact tiny_bare e
  rw [if_neg q] at e
  by_cases q : h = sLogic
  · rw [if_pos q] at e; obtain ⟨x, rfl, e⟩ := oneO_back e; obtain ⟨t, e0, rfl⟩ := map_some' e
    exact ⟨Nat.zero_le _, Nat.zero_le _, Nat.zero_le _, Nat.zero_le _⟩
  rw [if_neg q] at e
  by_cases q : h = sOption
  · rw [if_pos q] at e
    unfold optionO at e
    split at e
    · split at e
      · split at e
        · obtain ⟨n, e0, rfl⟩ := map_some' e
          exact ⟨Nat.zero_le _, Nat.zero_le _, Nat.zero_le _, Nat.zero_le _⟩
        · split at e
          · obtain ⟨l, e0, rfl⟩ := map_some' e
            refine ⟨?_, Nat.zero_le _, Nat.zero_le _, Nat.zero_le _⟩
            unfold seedsN at e0
            obtain ⟨l', _, e1⟩ := bind_some' e0
            split at e1
            · have := eachO_len e1
              show l.length ≤ 64
              omega
            · cases e1
          · cases e
      · cases e
    · cases e
  rw [if_neg q] at e
  by_cases q : h = sSort
  · rw [if_pos q] at e
    unfold sortO at e
    split at e
    · obtain ⟨t, e1, e⟩ := bind_some' e
      obtain ⟨n, e2, rfl⟩ := map_some' e
      exact ⟨Nat.zero_le _, Nat.zero_le _, Nat.zero_le _, Nat.zero_le _⟩
    · cases e
  rw [if_neg q] at e
  by_cases q : h = sFun
  · rw [if_pos q] at e
    unfold funO at e
    split at e
    · obtain ⟨t, e1, e⟩ := bind_some' e
      obtain ⟨l, e2, e⟩ := bind_some' e
      split at e
      · rename_i hl
        obtain ⟨b, e3, rfl⟩ := map_some' e
        exact ⟨Nat.zero_le _, hl, Nat.zero_le _, Nat.zero_le _⟩
      · cases e
    · cases e
  rw [if_neg q] at e
  by_cases q : h = sDefine
  · rw [if_pos q] at e
    unfold defineO at e
    split at e
    · obtain ⟨t, e1, e⟩ := bind_some' e
      obtain ⟨l, e2, e⟩ := bind_some' e
      split at e
      · rename_i hl
        obtain ⟨b, e3, rfl⟩ := map_some' e
        exact ⟨Nat.zero_le _, Nat.zero_le _, hl, (by simp : [_].length ≤ 16)⟩
      · cases e
    · cases e
  rw [if_neg q] at e
  by_cases q : h = sAssert
  · rw [if_pos q] at e; obtain ⟨x, rfl, e⟩ := oneO_back e
    obtain rfl := Option.some.inj e
    exact ⟨Nat.zero_le _, Nat.zero_le _, Nat.zero_le _, (by simp : [x].length ≤ 16)⟩
  rw [if_neg q] at e
  by_cases q : h = sPush
  · rw [if_pos q] at e; obtain ⟨x, rfl, e⟩ := oneO_back e
    obtain ⟨n, e0, rfl⟩ := map_some' e
    exact ⟨Nat.zero_le _, Nat.zero_le _, Nat.zero_le _, Nat.zero_le _⟩
  rw [if_neg q] at e
  by_cases q : h = sPop
  · rw [if_pos q] at e; obtain ⟨x, rfl, e⟩ := oneO_back e
    obtain ⟨n, e0, rfl⟩ := map_some' e
    exact ⟨Nat.zero_le _, Nat.zero_le _, Nat.zero_le _, Nat.zero_le _⟩
  rw [if_neg q] at e
  by_cases q : h = sValue
  · rw [if_pos q] at e
    unfold valueO at e
    split at e
    · obtain ⟨l, e1, e⟩ := bind_some' e
      split at e
      · rename_i hl
        obtain rfl := Option.some.inj e
        exact ⟨Nat.zero_le _, Nat.zero_le _, Nat.zero_le _, hl.2⟩
      · cases e
    · cases e
  · rw [if_neg q] at e; cases e
theorem tiny_cmd {x : Sexp} {c : Cmd} (h : cmdO x = some c) : CmdTiny c := by
  unfold cmdO at h
  split at h
  · rw [parseO_eq] at h
    exact tiny_form h
  · cases h
theorem mayCB_of {x : Sexp} {c : Cmd} (h : cmdO x = some c) : mayCB c = true := eqB_true.2 (mayC_back h)
theorem some_res {w w' : World} {e : Ending} {d0 : Cmd} (h : CmdRes w (some d0) 30 e w') : ∃ D1 e1 D2 e2 D3 e3 D4 e4, e = .returned (.tuple #[.agg #[.int .i8 d0.kind, .string d0.name, .int .i64 d0.n, .slice D1 d0.l.length e1, .slice D2 d0.args.length e2, .slice D3 d0.params.length e3, .string d0.res, .slice D4 d0.terms.length e4], .int .i64 0]) ∧ CmdAt w' D1 e1 D2 e2 D3 e3 D4 e4 d0 ∧ Below w.heap.size w w' := by
  obtain ⟨A1, c1, A2, c2, A3, c3, A4, c4, h1, h3, h2⟩ := h
  exact ⟨A1, c1, A2, c2, A3, c3, A4, c4, h1, h3, h2⟩
/-- a command and an expression boxed -/
structure BoxX (w w2 : World) (a : Cmd) (x : Sexp) (A1 A2 A3 A4 B : Option Addr) (c1 c2 c3 c4 d : Nat) : Prop where
  n : w2.heap[w.heap.size]? = some (.cells #[.int .i8 a.kind, .string a.name, .int .i64 a.n, .slice A1 a.l.length c1, .slice A2 a.args.length c2, .slice A3 a.params.length c3, .string a.res, .slice A4 a.terms.length c4] 28 (0, 0))
  m : w2.heap[w.heap.size + 1]? = some (.cells #[.int .i8 x.kind, .string x.text, .slice B x.l.length d] 30 (0, 0))
  b : Below w.heap.size w w2
section
variable {w w2 w' : World} {a : Cmd} {x : Sexp} {A1 A2 A3 A4 B : Option Addr} {c1 c2 c3 c4 d : Nat}
theorem BoxX.on (h : BoxX w w2 a x A1 A2 A3 A4 B c1 c2 c3 c4 d) (hb : Below w2.heap.size w2 w') : BoxX w w' a x A1 A2 A3 A4 B c1 c2 c3 c4 d :=
  ⟨(hb.block _ (lt_of_block h.n)).trans h.n, (hb.block _ (lt_of_block h.m)).trans h.m, h.b.trans (hb.mono h.b.size)⟩
theorem BoxX.make (w : World) (a : Cmd) (x : Sexp) (A1 A2 A3 A4 B : Option Addr) (c1 c2 c3 c4 d : Nat) :
    BoxX w ((w.alloc (.cells #[.int .i8 a.kind, .string a.name, .int .i64 a.n, .slice A1 a.l.length c1, .slice A2 a.args.length c2, .slice A3 a.params.length c3, .string a.res, .slice A4 a.terms.length c4] 28)).alloc (.cells #[.int .i8 x.kind, .string x.text, .slice B x.l.length d] 30)) a x A1 A2 A3 A4 B c1 c2 c3 c4 d := by
  refine ⟨(Below.heap_alloc _ _ _ (by simp)).trans (blk_new w _), ?_, ((Below.refl w.heap.size w).alloc (Nat.le_refl _) _).alloc (by simp) _⟩
  have hh := blk_new (w.alloc (.cells #[.int .i8 a.kind, .string a.name, .int .i64 a.n, .slice A1 a.l.length c1, .slice A2 a.args.length c2, .slice A3 a.params.length c3, .string a.res, .slice A4 a.terms.length c4] 28)) (.cells #[.int .i8 x.kind, .string x.text, .slice B x.l.length d] 30)
  have e : (w.alloc (.cells #[.int .i8 a.kind, .string a.name, .int .i64 a.n, .slice A1 a.l.length c1, .slice A2 a.args.length c2, .slice A3 a.params.length c3, .string a.res, .slice A4 a.terms.length c4] 28)).heap.size = w.heap.size + 1 := by simp
  rw [e] at hh
  exact hh
end
set_option maxRecDepth 100000 in
set_option maxHeartbeats 12800000 in
theorem back_all {w : World} {a : Cmd} {x : Sexp} {A1 A2 A3 A4 B : Option Addr} {c1 c2 c3 c4 d : Nat} (ha : CmdAt w A1 c1 A2 c2 A3 c3 A4 c4 a) (hx : SexpR w [.int .i8 x.kind, .string x.text, .slice B x.l.length d] x) (ht : TabOk w) :
    Calls Tryd.prog 3 #[agC A1 c1 A2 c2 A3 c3 A4 c4 a, .agg #[.int .i8 x.kind, .string x.text, .slice B x.l.length d]] w fun e w' => e = .returned (.bool true) ∧ Below w.heap.size w w' := by
  have HB2 := Lib.hid (BoxX.make w a x A1 A2 A3 A4 B c1 c2 c3 c4 d)
  have HA := Lib.hid ha
  have HT := Lib.hid ht
  have HW := Lib.hid (fun W (hW : Below w.heap.size w W) => wakes8_any W (ht.on hW))
  have HGa := Lib.hid (fun W (hW : Below w.heap.size w W) => great8_any (ha.on hW))
  have HGx := Lib.hid (fun W (hW : Below w.heap.size w W) => greatx_any (SexpR.lasts _ _ _ _ hW hx))
  have HPx := Lib.hid (fun W (hW : Below w.heap.size w W) => parse_cmd_any (SexpR.lasts _ _ _ _ hW hx))
  have HXx := Lib.hid hx
  clear ha hx ht
  unfold agC agS at *
  go_enter Tryd.func3, Tryd.ntmps3
  go_upto_region 1 with fail
  generalize ((w.alloc (.cells #[.int .i8 a.kind, .string a.name, .int .i64 a.n, .slice A1 a.l.length c1, .slice A2 a.args.length c2, .slice A3 a.params.length c3, .string a.res, .slice A4 a.terms.length c4] 28)).alloc (.cells #[.int .i8 x.kind, .string x.text, .slice B x.l.length d] 30)) = w2 at *
  obtain ⟨n0, n1, n2, n3, n4, n5, n6, n7, nf⟩ := eight_cells HB2.out.n
  go_wp2_with fail
  refine (HGa.out w2 HB2.out.b).mono ?_
  rintro e w3 ⟨⟨ga, rfl, hga⟩, hb3⟩
  have HB3 := Lib.hid (HB2.out.on hb3)
  clear hb3 n0 n1 n2 n3 n4 n5 n6 n7 nf
  cases ga with
  | true =>
    clear hga
    go_wp2_with fail
    refine (HW.out w3 HB3.out.b).mono ?_
    rintro e w4 ⟨rfl, hb4⟩
    have HB4 := Lib.hid (HB3.out.b.trans (hb4.mono HB3.out.b.size))
    clear hb4
    go_wp2_with fail
    go_ret
    exact ⟨rfl, HB4.out⟩
  | false =>
    have HOa := Lib.hid (hga rfl)
    clear hga
    obtain ⟨m0, m1, m2, _⟩ := three_cells HB3.out.m
    go_wp2_with fail
    refine (HGx.out w3 HB3.out.b).mono ?_
    rintro e w4 ⟨⟨gb, rfl, hgb⟩, hb4⟩
    have HB4 := Lib.hid (HB3.out.on hb4)
    clear hb4 m0 m1 m2
    cases gb with
    | true =>
      clear hgb
      go_wp2_with fail
      refine (HW.out w4 HB4.out.b).mono ?_
      rintro e w5 ⟨rfl, hb5⟩
      have HB5 := Lib.hid (HB4.out.b.trans (hb5.mono HB4.out.b.size))
      clear hb5
      go_wp2_with fail
      go_ret
      exact ⟨rfl, HB5.out⟩
    | false =>
      clear hgb
      have HXa := Lib.hid (fun W (hW : Below w.heap.size w W) => csexp_any HA.out hW HOa.out.small (HT.out.on hW))
      have HMa := Lib.hid (fun W (hW : Below w.heap.size w W) => cmay_any (HA.out.on hW) HOa.out.small (HT.out.on hW))
      have HSm := Lib.hid (fun W (hW : Below w.heap.size w W) B1 d1 B2 d2 B3 d3 B4 d4 b (hb : CmdAt W B1 d1 B2 d2 B3 d3 B4 d4 b) => rcsame_any (HA.out.on hW) hb)
      unfold agC at *
      obtain ⟨n0, n1, n2, n3, n4, n5, n6, n7, nf⟩ := eight_cells HB4.out.n
      go_wp2_with fail
      refine (HXa.out w4 HB4.out.b).mono ?_
      rintro e w5 ⟨y, Ay, cy, ⟨rfl, hy⟩, hyr, hb5⟩
      generalize hg1 : (if mayCB a = true then (0 : Int) else 2) = g1 at *
      have HG1 := Lib.hid hg1
      have HYr := Lib.hid (hyr _ (Keeps.refl _ _))
      have HYe := Lib.hid hy
      have B6 := Lib.hid ((Below.refl w5.heap.size w5).alloc (Nat.le_refl _) (.cells #[.int .i8 y.kind, .string y.text, .slice Ay y.l.length cy] 30))
      have HB6 := Lib.hid ((HB4.out.on hb5).on B6.out)
      have NY6 := Lib.hid (blk_new w5 (.cells #[.int .i8 y.kind, .string y.text, .slice Ay y.l.length cy] 30))
      have HY6 := Lib.hid (SexpR.lasts _ _ _ _ B6.out HYr.out)
      clear hb5 hyr hy n0 n1 n2 n3 n4 n5 n6 n7 nf hg1
      go_upto_region 4 with fail
      generalize w5.alloc (.cells #[.int .i8 y.kind, .string y.text, .slice Ay y.l.length cy] 30) = w6 at *
      cases hma : mayCB a with
      | false =>
        have hg1 := HG1.out
        rw [hma, if_neg (by decide)] at hg1
        subst hg1
        clear HG1 HYe
        have HBe := HB6
        obtain ⟨m0, m1, m2, _⟩ := three_cells HBe.out.m
        go_wp2_with fail
        refine (HPx.out w6 HBe.out.b).mono ?_
        intro e u1 h1
        cases hcx : cmdO x with
        | none =>
          rw [hcx] at h1
          obtain ⟨D1, e1, D2, e2, D3, e3, D4, e4, rfl, hb1⟩ := push0_res h1
          have B1 := Lib.hid ((HBe.out.b.trans (hb1.mono HBe.out.b.size)).alloc (Nat.le_trans HBe.out.b.size hb1.size) (.cells #[.int .i8 0, .string { data := #[] }, .int .i64 0, .slice D1 0 e1, .slice D2 0 e2, .slice D3 0 e3, .string { data := #[] }, .slice D4 0 e4] 28))
          clear hb1 h1 hcx
          go_upto_region 9 with fail
          generalize u1.alloc (.cells #[.int .i8 0, .string { data := #[] }, .int .i64 0, .slice D1 0 e1, .slice D2 0 e2, .slice D3 0 e3, .string { data := #[] }, .slice D4 0 e4] 28) = u2 at *
          go_wp2_with fail
          refine (HW.out u2 B1.out).mono ?_
          rintro e u3 ⟨rfl, hb3⟩
          have B3 := Lib.hid (B1.out.trans (hb3.mono B1.out.size))
          clear hb3
          go_wp2_with fail
          go_ret
          exact ⟨rfl, B3.out⟩
        | some d0 =>
          rw [hcx] at h1
          obtain ⟨D1, e1, D2, e2, D3, e3, D4, e4, rfl, hat, hb1⟩ := some_res h1
          have HTi := Lib.hid (tiny_cmd hcx).small
          have HMd := Lib.hid (mayCB_of hcx)
          have HWx := Lib.hid (cmdO_back hcx).1
          have Ba := Lib.hid ((Below.refl u1.heap.size u1).alloc (Nat.le_refl _) (.cells #[.int .i8 d0.kind, .string d0.name, .int .i64 d0.n, .slice D1 d0.l.length e1, .slice D2 d0.args.length e2, .slice D3 d0.params.length e3, .string d0.res, .slice D4 d0.terms.length e4] 28))
          have HBu := Lib.hid ((HBe.out.on hb1).on Ba.out)
          have NDu := Lib.hid (blk_new u1 (.cells #[.int .i8 d0.kind, .string d0.name, .int .i64 d0.n, .slice D1 d0.l.length e1, .slice D2 d0.args.length e2, .slice D3 d0.params.length e3, .string d0.res, .slice D4 d0.terms.length e4] 28))
          have HDu := Lib.hid (hat.on Ba.out)
          clear hb1 h1 hcx hat m0 m1 m2
          go_upto_region 9 with fail
          generalize u1.alloc (.cells #[.int .i8 d0.kind, .string d0.name, .int .i64 d0.n, .slice D1 d0.l.length e1, .slice D2 d0.args.length e2, .slice D3 d0.params.length e3, .string d0.res, .slice D4 d0.terms.length e4] 28) = u2 at *
          have HXd := Lib.hid (fun W (hW : Below u2.heap.size u2 W) => csexp_any HDu.out hW HTi.out (HT.out.on (HBu.out.b.trans (hW.mono HBu.out.b.size))))
          have HMy := Lib.hid (fun W (hW : Below u2.heap.size u2 W) => cmay_any (HDu.out.on hW) HTi.out (HT.out.on (HBu.out.b.trans (hW.mono HBu.out.b.size))))
          unfold agC at *
          obtain ⟨y0, y1, y2, y3, y4, y5, y6, y7, yf⟩ := eight_cells NDu.out
          go_wp2_with fail
          refine (HXd.out u2 (Below.refl _ _)).mono ?_
          rintro e u3 ⟨z, Az, cz, ⟨rfl, hz⟩, hzr, hb3⟩
          rw [HMd.out, if_pos rfl, HWx.out] at hz
          rw [HMd.out, if_pos rfl]
          rw [HMd.out] at HMy
          subst hz
          have HZr := Lib.hid (hzr _ (Keeps.refl _ _))
          have Bz := Lib.hid ((Below.refl u3.heap.size u3).alloc (Nat.le_refl _) (.cells #[.int .i8 z.kind, .string z.text, .slice Az z.l.length cz] 30))
          have B32 := Lib.hid (hb3.trans (Bz.out.mono hb3.size))
          have HB4 := Lib.hid ((HBu.out.on hb3).on Bz.out)
          have NZ := Lib.hid (blk_new u3 (.cells #[.int .i8 z.kind, .string z.text, .slice Az z.l.length cz] 30))
          have ND4 := Lib.hid ((B32.out.block _ (lt_of_block NDu.out)).trans NDu.out)
          have HZ4 := Lib.hid (SexpR.lasts _ _ _ _ Bz.out HZr.out)
          clear hb3 hzr y0 y1 y2 y3 y4 y5 y6 y7 yf
          go_upto_region 12 with fail
          generalize u3.alloc (.cells #[.int .i8 z.kind, .string z.text, .slice Az z.l.length cz] 30) = u4 at *
          have HSx := Lib.hid (rsame_all _ z (Nat.lt_succ_self _) u4 B d z Az cz (SexpR.lasts _ _ _ _ HB4.out.b HXx.out) HZ4.out)
          rw [eqB_self] at HSx
          obtain ⟨m0, m1, m2, _⟩ := three_cells HB4.out.m
          obtain ⟨z0, z1, z2, _⟩ := three_cells NZ.out
          go_wp2_with fail
          refine HSx.out.mono ?_
          rintro e u5 ⟨rfl, hb5⟩
          have B5 := Lib.hid (B32.out.trans (hb5.mono B32.out.size))
          have HB5 := Lib.hid (HB4.out.on hb5)
          obtain ⟨y0, y1, y2, y3, y4, y5, y6, y7, yf⟩ := eight_cells ((hb5.block _ (lt_of_block ND4.out)).trans ND4.out)
          clear hb5 m0 m1 m2 z0 z1 z2
          go_wp2_with fail
          refine (HMy.out u5 B5.out).mono ?_
          rintro e u6 ⟨rfl, hb6⟩
          have HB6' := Lib.hid (HB5.out.on hb6)
          clear hb6 y0 y1 y2 y3 y4 y5 y6 y7 yf
          go_wp2_with fail
          refine (HW.out u6 HB6'.out.b).mono ?_
          rintro e u7 ⟨rfl, hb7⟩
          have B7 := Lib.hid (HB6'.out.b.trans (hb7.mono HB6'.out.b.size))
          clear hb7
          go_wp2_with fail
          go_ret
          exact ⟨rfl, B7.out⟩
      | true =>
        have hg1 := HG1.out
        rw [hma, if_pos rfl] at hg1
        subst hg1
        have hye := HYe.out
        rw [hma, if_pos rfl] at hye
        have HPy := Lib.hid (show Calls Tryd.prog 9 #[.agg #[.int .i8 y.kind, .string y.text, .slice Ay y.l.length cy]] w6 (CmdRes w6 (some a) 30) from by
          have h := parse_cmd_any HY6.out
          rw [hye, show cmdO (writeX a) = some a from eqB_true.1 hma] at h
          rw [hye]
          exact h)
        rw [hma] at HMa
        clear HG1 HYe hye hma
        obtain ⟨y0, y1, y2, _⟩ := three_cells NY6.out
        go_wp2_with fail
        refine HPy.out.mono ?_
        intro e w7 h7
        obtain ⟨D1, e1, D2, e2, D3, e3, D4, e4, rfl, hat, hb7⟩ := some_res h7
        have B8 := Lib.hid ((Below.refl w7.heap.size w7).alloc (Nat.le_refl _) (.cells #[.int .i8 a.kind, .string a.name, .int .i64 a.n, .slice D1 a.l.length e1, .slice D2 a.args.length e2, .slice D3 a.params.length e3, .string a.res, .slice D4 a.terms.length e4] 28))
        have ND8 := Lib.hid (blk_new w7 (.cells #[.int .i8 a.kind, .string a.name, .int .i64 a.n, .slice D1 a.l.length e1, .slice D2 a.args.length e2, .slice D3 a.params.length e3, .string a.res, .slice D4 a.terms.length e4] 28))
        have HD8 := Lib.hid (hat.on B8.out)
        have HB8 := Lib.hid ((HB6.out.on hb7).on B8.out)
        clear hb7 hat h7 y0 y1 y2
        go_upto_region 6 with fail
        generalize w7.alloc (.cells #[.int .i8 a.kind, .string a.name, .int .i64 a.n, .slice D1 a.l.length e1, .slice D2 a.args.length e2, .slice D3 a.params.length e3, .string a.res, .slice D4 a.terms.length e4] 28) = w8 at *
        obtain ⟨n0, n1, n2, n3, n4, n5, n6, n7, nf⟩ := eight_cells HB8.out.n
        obtain ⟨y0, y1, y2, y3, y4, y5, y6, y7, yf⟩ := eight_cells ND8.out
        go_wp2_with fail
        refine (HSm.out w8 HB8.out.b _ _ _ _ _ _ _ _ _ HD8.out).mono ?_
        rintro e w9 ⟨rfl, hb9⟩
        rw [eqB_self]
        have HB9 := Lib.hid (HB8.out.on hb9)
        clear hb9 n0 n1 n2 n3 n4 n5 n6 n7 nf y0 y1 y2 y3 y4 y5 y6 y7 yf
        obtain ⟨n0, n1, n2, n3, n4, n5, n6, n7, nf⟩ := eight_cells HB9.out.n
        go_wp2_with fail
        refine (HMa.out w9 HB9.out.b).mono ?_
        rintro e w10 ⟨rfl, hb10⟩
        have HBe := Lib.hid (HB9.out.on hb10)
        clear hb10 n0 n1 n2 n3 n4 n5 n6 n7 nf
        obtain ⟨m0, m1, m2, _⟩ := three_cells HBe.out.m
        go_wp2_with fail
        refine (HPx.out w10 HBe.out.b).mono ?_
        intro e u1 h1
        cases hcx : cmdO x with
        | none =>
          rw [hcx] at h1
          obtain ⟨D1, e1, D2, e2, D3, e3, D4, e4, rfl, hb1⟩ := push0_res h1
          have B1 := Lib.hid ((HBe.out.b.trans (hb1.mono HBe.out.b.size)).alloc (Nat.le_trans HBe.out.b.size hb1.size) (.cells #[.int .i8 0, .string { data := #[] }, .int .i64 0, .slice D1 0 e1, .slice D2 0 e2, .slice D3 0 e3, .string { data := #[] }, .slice D4 0 e4] 28))
          clear hb1 h1 hcx
          go_upto_region 9 with fail
          generalize u1.alloc (.cells #[.int .i8 0, .string { data := #[] }, .int .i64 0, .slice D1 0 e1, .slice D2 0 e2, .slice D3 0 e3, .string { data := #[] }, .slice D4 0 e4] 28) = u2 at *
          go_wp2_with fail
          refine (HW.out u2 B1.out).mono ?_
          rintro e u3 ⟨rfl, hb3⟩
          have B3 := Lib.hid (B1.out.trans (hb3.mono B1.out.size))
          clear hb3
          go_wp2_with fail
          go_ret
          exact ⟨rfl, B3.out⟩
        | some d0 =>
          rw [hcx] at h1
          obtain ⟨D1, e1, D2, e2, D3, e3, D4, e4, rfl, hat, hb1⟩ := some_res h1
          have HTi := Lib.hid (tiny_cmd hcx).small
          have HMd := Lib.hid (mayCB_of hcx)
          have HWx := Lib.hid (cmdO_back hcx).1
          have Ba := Lib.hid ((Below.refl u1.heap.size u1).alloc (Nat.le_refl _) (.cells #[.int .i8 d0.kind, .string d0.name, .int .i64 d0.n, .slice D1 d0.l.length e1, .slice D2 d0.args.length e2, .slice D3 d0.params.length e3, .string d0.res, .slice D4 d0.terms.length e4] 28))
          have HBu := Lib.hid ((HBe.out.on hb1).on Ba.out)
          have NDu := Lib.hid (blk_new u1 (.cells #[.int .i8 d0.kind, .string d0.name, .int .i64 d0.n, .slice D1 d0.l.length e1, .slice D2 d0.args.length e2, .slice D3 d0.params.length e3, .string d0.res, .slice D4 d0.terms.length e4] 28))
          have HDu := Lib.hid (hat.on Ba.out)
          clear hb1 h1 hcx hat m0 m1 m2
          go_upto_region 9 with fail
          generalize u1.alloc (.cells #[.int .i8 d0.kind, .string d0.name, .int .i64 d0.n, .slice D1 d0.l.length e1, .slice D2 d0.args.length e2, .slice D3 d0.params.length e3, .string d0.res, .slice D4 d0.terms.length e4] 28) = u2 at *
          have HXd := Lib.hid (fun W (hW : Below u2.heap.size u2 W) => csexp_any HDu.out hW HTi.out (HT.out.on (HBu.out.b.trans (hW.mono HBu.out.b.size))))
          have HMy := Lib.hid (fun W (hW : Below u2.heap.size u2 W) => cmay_any (HDu.out.on hW) HTi.out (HT.out.on (HBu.out.b.trans (hW.mono HBu.out.b.size))))
          unfold agC at *
          obtain ⟨y0, y1, y2, y3, y4, y5, y6, y7, yf⟩ := eight_cells NDu.out
          go_wp2_with fail
          refine (HXd.out u2 (Below.refl _ _)).mono ?_
          rintro e u3 ⟨z, Az, cz, ⟨rfl, hz⟩, hzr, hb3⟩
          rw [HMd.out, if_pos rfl, HWx.out] at hz
          rw [HMd.out, if_pos rfl]
          rw [HMd.out] at HMy
          subst hz
          have HZr := Lib.hid (hzr _ (Keeps.refl _ _))
          have Bz := Lib.hid ((Below.refl u3.heap.size u3).alloc (Nat.le_refl _) (.cells #[.int .i8 z.kind, .string z.text, .slice Az z.l.length cz] 30))
          have B32 := Lib.hid (hb3.trans (Bz.out.mono hb3.size))
          have HB4 := Lib.hid ((HBu.out.on hb3).on Bz.out)
          have NZ := Lib.hid (blk_new u3 (.cells #[.int .i8 z.kind, .string z.text, .slice Az z.l.length cz] 30))
          have ND4 := Lib.hid ((B32.out.block _ (lt_of_block NDu.out)).trans NDu.out)
          have HZ4 := Lib.hid (SexpR.lasts _ _ _ _ Bz.out HZr.out)
          clear hb3 hzr y0 y1 y2 y3 y4 y5 y6 y7 yf
          go_upto_region 12 with fail
          generalize u3.alloc (.cells #[.int .i8 z.kind, .string z.text, .slice Az z.l.length cz] 30) = u4 at *
          have HSx := Lib.hid (rsame_all _ z (Nat.lt_succ_self _) u4 B d z Az cz (SexpR.lasts _ _ _ _ HB4.out.b HXx.out) HZ4.out)
          rw [eqB_self] at HSx
          obtain ⟨m0, m1, m2, _⟩ := three_cells HB4.out.m
          obtain ⟨z0, z1, z2, _⟩ := three_cells NZ.out
          go_wp2_with fail
          refine HSx.out.mono ?_
          rintro e u5 ⟨rfl, hb5⟩
          have B5 := Lib.hid (B32.out.trans (hb5.mono B32.out.size))
          have HB5 := Lib.hid (HB4.out.on hb5)
          obtain ⟨y0, y1, y2, y3, y4, y5, y6, y7, yf⟩ := eight_cells ((hb5.block _ (lt_of_block ND4.out)).trans ND4.out)
          clear hb5 m0 m1 m2 z0 z1 z2
          go_wp2_with fail
          refine (HMy.out u5 B5.out).mono ?_
          rintro e u6 ⟨rfl, hb6⟩
          have HB6' := Lib.hid (HB5.out.on hb6)
          clear hb6 y0 y1 y2 y3 y4 y5 y6 y7 yf
          go_wp2_with fail
          refine (HW.out u6 HB6'.out.b).mono ?_
          rintro e u7 ⟨rfl, hb7⟩
          have B7 := Lib.hid (HB6'.out.b.trans (hb7.mono HB6'.out.b.size))
          clear hb7
          go_wp2_with fail
          go_ret
          exact ⟨rfl, B7.out⟩
end Go.Proofs.YtbchcipjpcdhfaaDoor.Cm
/- CommandBack: for any input the law answers true, and each argument reads as before: the tied card. -/
namespace Go.Proofs.YtbchcipjpcdhfaaDoor.commandBack
open Go.RowKit Go.ChangeShapes Go.WideShapes Go.ChangeAt Go.WideMaps Go.WideElems
open Go.ChangeMaps (setBlock shut_map_nil open_string shut_string keptBut_setBlock frozen?_setBlock heap_setBlock_same)

theorem gTabType : (Tryd.prog.globals[0]?).map (·.type) = some 115 := by kernel_rfl
theorem cellsTab : Tryd.prog.cellsOf 115 = 20 := by kernel_rfl
theorem cellsU64 : Tryd.prog.cellsOf 103 = 1 := by kernel_rfl
theorem tabOk {W : World} (h : laidMetH Tryd.prog Rows.commandBackRow.laid W) : TabOk W := by
  have h2 := h.filter (fun x => x.1 == "internal/strconv.uint64pow10")
  rw [MakeChecks.laidMetH_plain _ _ _ (by kernel_rfl)] at h2
  exact Lib.tabIs_of_head (rest := []) gTab gTabType Tryd.underlying115 Tryd.underlying103 cellsU64 cellsTab h2
theorem cellsInt : Tryd.prog.cellsOf 3 = 1 := by kernel_rfl

set_option maxRecDepth 100000 in
theorem contract (H : Type) (enc : TypeId × Value → H) (W : World) (base : Nat) (args : Array Value) (ds gs : List (DataW H)) (before : List MemPlace)
    (hval : ∀ (j : Nat) t v, Tryd.f3.params[j]? = some t → args[j]? = some v → Value.okWide Tryd.prog W .any base t v)
    (hW : DataW.Whole enc Tryd.prog Tryd.f3.params.toList Rows.commandBackSpec.vars false W args.toList ds gs before) (hR : (DataW.weightsEach Tryd.prog (Tryd.f3.params.toList ++ Rows.commandBackSpec.plain.varTypes Tryd.prog) (ds ++ gs)).all (· ≤ reachBytes) = true) (hL : laidMetH Tryd.prog Rows.commandBackRow.laid W) :
    Calls Tryd.prog 3 args W fun e W' => ∃ v, e = .returned v ∧ Rows.commandBackSpec.post enc Tryd.prog Tryd.f3 false true false false W args v W' := by
  have hW' := hW
  obtain ⟨p, q, hA0, hV, rfl, hfz, hnd⟩ := hW
  have hA : DataW.TrodAll enc Tryd.prog W 0 (fun _ => true) true Tryd.f3.params.toList args.toList ds p := hA0
  have hfit : ∀ (j : Nat) t d, Tryd.f3.params.toList[j]? = some t → ds[j]? = some d → Fits Tryd.prog t d := fun j t d h1 h2 => fits_each (fun m hm => of_decide_eq_true (List.all_eq_true.1 hR m hm)) j t d (by rw [List.getElem?_append_left (List.getElem?_eq_some_iff.1 h1).1]; exact h1) (by rw [List.getElem?_append_left (List.getElem?_eq_some_iff.1 h2).1]; exact h2)
  rw [Tryd.params3] at hfit
  rw [Tryd.params3] at hA hval
  obtain ⟨v0, vs0, d0, ds0, p0, q0, hargs, rfl, rfl, h0, r0⟩ := trodAll_cons hA
  obtain ⟨v1, vs1, d1, ds1, p1, q1, rfl, rfl, rfl, h1, r1⟩ := trodAll_cons r0
  obtain ⟨rfl, rfl, rfl⟩ := trodAll_nil r1
  obtain rfl : args = #[v0, v1] := by cases args; simp_all
  obtain ⟨g0, A0_0, c0_0, A0_1, c0_1, A0_2, c0_2, A0_3, c0_3, rfl, hg0⟩ := Dt.open_cmd (hval 0 28 v0 rfl rfl) h0 (hfit 0 28 d0 rfl rfl)
  obtain ⟨x1, A1, c1, rfl, hx1⟩ := Dt.open_sexp (hval 1 30 v1 rfl rfl) h1 (hfit 1 30 d1 rfl rfl)
  refine (Cm.back_all (w := W) hg0 hx1  (tabOk hL)).mono fun e W' ⟨he, hb⟩ => ⟨_, he, ?_⟩
  exact law_post laidOut (by kernel_rfl) rfl Tryd.underlying4 rfl rfl hW' hb

noncomputable def laidWorld (os : Os) : World := World.doorLaid Tryd.prog 24 os
theorem laid_met (os : Os) : laidMetH Tryd.prog Rows.commandBackRow.laid ((laidWorld os).forCall (fun _ _ => 0) ⟨#[], #[.agg #[.int .i8 0, .string ⟨#[]⟩, .int .i64 0, .slice none 0 0, .slice none 0 0, .slice none 0 0, .string ⟨#[]⟩, .slice none 0 0], .agg #[.int .i8 0, .string ⟨#[]⟩, .slice none 0 0]], []⟩).memory :=
  laidMetH_of_parts3 (fuel := 8) (laidMet_of_run' 8 (by kernel_rfl) (by kernel_rfl)) (by kernel_rfl) (by kernel_rfl)
theorem reads (os : Os) {H : Type} (enc : TypeId × Value → H) : ∃ x, DataW.whole enc Tryd.prog ((laidWorld os).forCall (fun _ _ => 0) ⟨#[], #[.agg #[.int .i8 0, .string ⟨#[]⟩, .int .i64 0, .slice none 0 0, .slice none 0 0, .slice none 0 0, .string ⟨#[]⟩, .slice none 0 0], .agg #[.int .i8 0, .string ⟨#[]⟩, .slice none 0 0]], []⟩).memory Tryd.f3.params.toList Rows.commandBackSpec.vars false #[Value.agg #[.int .i8 0, .string ⟨#[]⟩, .int .i64 0, .slice none 0 0, .slice none 0 0, .slice none 0 0, .string ⟨#[]⟩, .slice none 0 0], .agg #[.int .i8 0, .string ⟨#[]⟩, .slice none 0 0]].toList 8 = some ([.agg [.lit (.int .i8 0), .lit (.string []), .lit (.int .i64 0), .nil, .nil, .nil, .lit (.string []), .nil], .agg [.lit (.int .i8 0), .lit (.string []), .nil]], [], x) :=
  ⟨[], by kernel_rfl⟩

set_option maxRecDepth 100000 in
theorem lifted (os : Os) (started : os.Started) (H : Type) (enc : TypeId × Value → H) (F : Stop.Interp) :
    ReturnsInHanded {} Tryd.checked os 3 .any ((OpenSpec.ofChange Rows.commandBackSpec).preRow enc Tryd.prog Tryd.f3 Rows.commandBackRow.domain false Rows.commandBackRow.laid) (((OpenSpec.ofChange Rows.commandBackSpec).at F).post enc Tryd.prog Tryd.f3 false true false false) := by
  obtain ⟨places, hx⟩ := reads os enc
  refine returnsInHanded_of_row (C := Tryd.checked) (s := OpenSpec.ofChange Rows.commandBackSpec) own started (by kernel_rfl) Tryd.func3
    (witness_row_at (enc := enc) (C := Tryd.checked) false (laidWorld os) #[.agg #[.int .i8 0, .string ⟨#[]⟩, .int .i64 0, .slice none 0 0, .slice none 0 0, .slice none 0 0, .string ⟨#[]⟩, .slice none 0 0], .agg #[.int .i8 0, .string ⟨#[]⟩, .slice none 0 0]] rfl (by kernel_rfl) (by kernel_rfl) (by kernel_rfl)
      (OpenSpec.preRow_of_cond 8 hx (by kernel_rfl) (fun k hk => by cases hk) (by kernel_rfl) (laid_met os))) ?_
  intro W base args ds gs before hval hW _ _ hR hL _ _
  exact contract H enc W base args ds gs before hval hW hR hL

theorem said : Rows.CommandBackSaid :=
  OpenClaim.holds_of_cond 3 Tryd.f3 rfl rfl rfl rfl rfl rfl rfl ⟨rfl, rfl, rfl, rfl, rfl⟩ rfl rfl rfl rfl rfl (by kernel_rfl) Tryd.func3 (by kernel_rfl)
    (of_decide_eq_true (by kernel_rfl)) (by unfold Func.isWrapper; first | (rw [if_pos (by decide +kernel)]; kernel_rfl) | (rw [if_neg (by decide +kernel)]; exact ⟨rfl, rfl⟩))
    (fun os started H enc _ F => by rw [OpenClaim.pre_eq_preRow]; exact lifted os started H enc F)

theorem plain (f : FuncId) (fn : Func) (hf : Tryd.pinned.checked.prog.funcNamed "gantry/gantrylaw08.CommandBack" = some f) (hfn : Tryd.pinned.checked.prog.funcs[f]? = some fn) :
    false = Tryd.pinned.checked.prog.looks [] ∧ ∀ (j : Nat) t, fn.params[j]? = some t → Tryd.pinned.checked.prog.wantsStandIn t = false := by
  obtain rfl : f = 3 := Option.some.inj ((show Tryd.prog.funcNamed "gantry/gantrylaw08.CommandBack" = some 3 by kernel_rfl).symm.trans hf) |>.symm
  obtain rfl : fn = Tryd.f3 := (Option.some.inj (Tryd.func3.symm.trans hfn)).symm
  refine ⟨by kernel_rfl, fun j t ht => ?_⟩
  have hm := Array.mem_of_getElem? ht
  have hall : (Tryd.f3.params.toList.all fun u => !Tryd.prog.wantsStandIn u) = true := by kernel_rfl
  exact (show Tryd.prog.wantsStandIn t = false by simpa using List.all_eq_true.1 hall t (by simpa using hm))

/-- the card -/
theorem card : Rows.CommandBackCardSaid :=
  Claim7.holds_tied_plain_at .later [] _ _ _ _ said (fun _ h => by cases h) (by kernel_rfl) (fun _ h => by cases h) commandBack_row_tie rfl ⟨rfl, rfl⟩ (by kernel_rfl) rfl plain (by kernel_rfl)
end Go.Proofs.YtbchcipjpcdhfaaDoor.commandBack
