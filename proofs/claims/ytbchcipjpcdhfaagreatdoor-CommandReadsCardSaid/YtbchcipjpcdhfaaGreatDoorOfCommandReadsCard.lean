import Derived.Test.YtbchcipjpcdhfaaGreatDoorMv
import Derived.Test.YtbchcipjpcdhfaaGreatDoorMo
import Derived.Test.YtbchcipjpcdhfaaGreatDoorMw
import Derived.Test.YtbchcipjpcdhfaaGreatDoorMr
import Derived.Test.YtbchcipjpcdhfaaGreatDoorCards
import Derived.Test.YtbchcipjpcdhfaaGreatDoorTie
import Derived.Test.YtbchcipjpcdhfaaGreatDoorMd
import Derived.Test.YtbchcipjpcdhfaaGreatDoorMb
/- merged by wip/merge.py from: Law8Reads CommandReadsCard -/
/- CommandReads: a list's command, or ErrForm. No condition. -/
namespace Go.Proofs.YtbchcipjpcdhfaaGreatDoor.Cm
open Go.RowKit Go.Proofs.YtbchcipjpcdhfaaGreatDoor.Dt

theorem any_res {w w' : World} {o : Option Cmd} {d0 : Cmd} {ee : Int} (hd : o.getD noCmd = d0) (he : (if o.isSome then (0 : Int) else 30) = ee) {e : Ending} (h : CmdRes w o 30 e w') : ∃ D1 e1 D2 e2 D3 e3 D4 e4, e = .returned (.tuple #[.agg #[.int .i8 d0.kind, .string d0.name, .int .i64 d0.n, .slice D1 d0.l.length e1, .slice D2 d0.args.length e2, .slice D3 d0.params.length e3, .string d0.res, .slice D4 d0.terms.length e4], .int .i64 ee]) ∧ CmdAt w' D1 e1 D2 e2 D3 e3 D4 e4 d0 ∧ Below w.heap.size w w' := by
  subst hd he
  obtain ⟨A1, c1, A2, c2, A3, c3, A4, c4, h1, h3, h2⟩ := h
  exact ⟨A1, c1, A2, c2, A3, c3, A4, c4, h1, h3, h2⟩
set_option linter.unusedSimpArgs false in
set_option maxRecDepth 100000 in
set_option maxHeartbeats 6400000 in
theorem reads_all {w : World} {x : Sexp} {A : Option Addr} {c : Nat} (hr : SexpR w [.int .i8 x.kind, .string x.text, .slice A x.l.length c] x) (ht : TabOk w) :
    Calls Tryz.prog 3 #[agS x A c] w fun e w' => e = .returned (.bool true) ∧ Below w.heap.size w w' := by
  have HW := Lib.hid (fun W (hW : Below w.heap.size w W) => wakes8_any W (ht.on hW))
  have HG := Lib.hid (fun W (hW : Below w.heap.size w W) => greatx_any (SexpR.lasts _ _ _ _ hW hr))
  have HP := Lib.hid (fun W (hW : Below w.heap.size w W) => parse_cmd_any (SexpR.lasts _ _ _ _ hW hr))
  have HQ := Lib.hid (fun W (hW : Below w.heap.size w W) => rparse_cmd_any (SexpR.lasts _ _ _ _ hW hr))
  clear hr ht
  unfold agS at *
  have HD := Lib.hid (rfl : (cmdO x).getD noCmd = (cmdO x).getD noCmd)
  go_enter Tryz.func3, Tryz.ntmps3
  go_upto_region 1 with fail
  have XB := Lib.hid (blk_new w (.cells #[.int .i8 x.kind, .string x.text, .slice A x.l.length c] 25))
  have B1 := Lib.hid ((Below.refl w.heap.size w).alloc (Nat.le_refl _) (.cells #[.int .i8 x.kind, .string x.text, .slice A x.l.length c] 25))
  generalize w.alloc (.cells #[.int .i8 x.kind, .string x.text, .slice A x.l.length c] 25) = w1 at *
  obtain ⟨q0, q1, q2, _⟩ := three_cells XB.out
  go_wp2_with fail
  refine (HG.out _ B1.out).mono ?_
  rintro e w2 ⟨⟨b, rfl, _⟩, hb2⟩
  have XB2 := Lib.hid ((hb2.block _ (lt_of_block XB.out)).trans XB.out)
  have B2 := Lib.hid (B1.out.trans (hb2.mono B1.out.size))
  clear hb2 q0 q1 q2 XB B1
  cases b with
  | true =>
    go_wp2_with fail
    refine (HW.out _ B2.out).mono ?_
    rintro e w3 ⟨rfl, hb3⟩
    have B3 := Lib.hid (B2.out.trans (hb3.mono B2.out.size))
    clear hb3
    go_wp2_with fail
    go_ret
    exact ⟨rfl, B3.out⟩
  | false =>
    obtain ⟨q0, q1, q2, _⟩ := three_cells XB2.out
    generalize hd : (cmdO x).getD noCmd = d at *
    generalize he : (if (cmdO x).isSome then (0 : Int) else 30) = ee
    have HRes := Lib.hid (fun W W' e => any_res (w := W) (w' := W') (e := e) hd he)
    clear hd he
    go_wp2_with fail
    refine (HP.out _ B2.out).mono ?_
    intro e w3 h3
    obtain ⟨D1, e1, D2, e2, D3, e3, D4, e4, rfl, hat, hb3⟩ := HRes.out _ _ _ h3
    have B3 := Lib.hid (B2.out.trans (hb3.mono B2.out.size))
    have BA := Lib.hid ((Below.refl w3.heap.size w3).alloc (Nat.le_refl _) (.cells #[.int .i8 d.kind, .string d.name, .int .i64 d.n, .slice D1 d.l.length e1, .slice D2 d.args.length e2, .slice D3 d.params.length e3, .string d.res, .slice D4 d.terms.length e4] 32))
    have XB4 := Lib.hid ((BA.out.block _ (Nat.lt_of_lt_of_le (lt_of_block XB2.out) hb3.size)).trans ((hb3.block _ (lt_of_block XB2.out)).trans XB2.out))
    have B4 := Lib.hid (B3.out.trans (BA.out.mono B3.out.size))
    have NA := Lib.hid (blk_new w3 (.cells #[.int .i8 d.kind, .string d.name, .int .i64 d.n, .slice D1 d.l.length e1, .slice D2 d.args.length e2, .slice D3 d.params.length e3, .string d.res, .slice D4 d.terms.length e4] 32))
    have HAt := Lib.hid (hat.on BA.out)
    clear h3 hat hb3 q0 q1 q2 XB2 B2
    go_upto_region 4 with fail
    generalize w3.heap.size = n3 at *
    generalize w3.alloc (.cells #[.int .i8 d.kind, .string d.name, .int .i64 d.n, .slice D1 d.l.length e1, .slice D2 d.args.length e2, .slice D3 d.params.length e3, .string d.res, .slice D4 d.terms.length e4] 32) = w4 at *
    obtain ⟨q0, q1, q2, _⟩ := three_cells XB4.out
    go_wp2_with fail
    refine (HQ.out _ B4.out).mono ?_
    intro e w5 h5
    obtain ⟨E1, f1, E2, f2, E3, f3, E4, f4, rfl, hat5, hb5⟩ := HRes.out _ _ _ h5
    have B5 := Lib.hid (B4.out.trans (hb5.mono B4.out.size))
    have BB := Lib.hid ((Below.refl w5.heap.size w5).alloc (Nat.le_refl _) (.cells #[.int .i8 d.kind, .string d.name, .int .i64 d.n, .slice E1 d.l.length f1, .slice E2 d.args.length f2, .slice E3 d.params.length f3, .string d.res, .slice E4 d.terms.length f4] 32))
    have NA6 := Lib.hid ((BB.out.block _ (Nat.lt_of_lt_of_le (lt_of_block NA.out) hb5.size)).trans ((hb5.block _ (lt_of_block NA.out)).trans NA.out))
    have NB6 := Lib.hid (blk_new w5 (.cells #[.int .i8 d.kind, .string d.name, .int .i64 d.n, .slice E1 d.l.length f1, .slice E2 d.args.length f2, .slice E3 d.params.length f3, .string d.res, .slice E4 d.terms.length f4] 32))
    have B6 := Lib.hid (B5.out.trans (BB.out.mono B5.out.size))
    have HA6 := Lib.hid ((HAt.out.on hb5).on BB.out)
    have HB6 := Lib.hid (hat5.on BB.out)
    clear h5 hat5 hb5 q0 q1 q2 XB4 NA HAt
    go_upto_region 5 with fail
    generalize w5.heap.size = n5 at *
    generalize w5.alloc (.cells #[.int .i8 d.kind, .string d.name, .int .i64 d.n, .slice E1 d.l.length f1, .slice E2 d.args.length f2, .slice E3 d.params.length f3, .string d.res, .slice E4 d.terms.length f4] 32) = w6 at *
    have HSm := Lib.hid (rcsame_any HA6.out HB6.out)
    have hself : eqB d d = true := eqB_self _
    rw [hself] at HSm
    unfold agC at HSm
    clear hself
    have hee : (ee == ee) = true := by simp
    obtain ⟨y0, y1, y2, y3, y4, y5, y6, y7, yf⟩ := eight_cells NA6.out
    obtain ⟨z0, z1, z2, z3, z4, z5, z6, z7, zf⟩ := eight_cells NB6.out
    go_wp2_with fail
    refine HSm.out.mono ?_
    rintro e w7 ⟨rfl, hb7⟩
    have B7 := Lib.hid (B6.out.trans (hb7.mono B6.out.size))
    clear hb7 y0 y1 y2 y3 y4 y5 y6 y7 yf z0 z1 z2 z3 z4 z5 z6 z7 zf
    go_wp2_with fail
    refine (HW.out _ B7.out).mono ?_
    rintro e w8 ⟨rfl, hb8⟩
    have B8 := Lib.hid (B7.out.trans (hb8.mono B7.out.size))
    clear hb8
    go_wp2_with fail
    go_ret
    exact ⟨rfl, B8.out⟩
end Go.Proofs.YtbchcipjpcdhfaaGreatDoor.Cm
/- CommandReads: for any input the law answers true, and each argument reads as before: the tied card. -/
namespace Go.Proofs.YtbchcipjpcdhfaaGreatDoor.commandReads
open Go.RowKit Go.ChangeShapes Go.WideShapes Go.ChangeAt Go.WideMaps Go.WideElems
open Go.ChangeMaps (setBlock shut_map_nil open_string shut_string keptBut_setBlock frozen?_setBlock heap_setBlock_same)

theorem gTabType : (Tryz.prog.globals[0]?).map (·.type) = some 139 := by kernel_rfl
theorem cellsTab : Tryz.prog.cellsOf 139 = 20 := by kernel_rfl
theorem cellsU64 : Tryz.prog.cellsOf 126 = 1 := by kernel_rfl
theorem tabOk {W : World} (h : laidMetH Tryz.prog Rows.commandReadsRow.laid W) : TabOk W := by
  have h2 := h.filter (fun x => x.1 == "internal/strconv.uint64pow10")
  rw [MakeChecks.laidMetH_plain _ _ _ (by kernel_rfl)] at h2
  exact Lib.tabIs_of_head (rest := []) gTab gTabType Tryz.underlying139 Tryz.underlying126 cellsU64 cellsTab h2
theorem cellsInt : Tryz.prog.cellsOf 3 = 1 := by kernel_rfl

set_option maxRecDepth 100000 in
theorem contract (H : Type) (enc : TypeId × Value → H) (W : World) (base : Nat) (args : Array Value) (ds gs : List (DataW H)) (before : List MemPlace)
    (hval : ∀ (j : Nat) t v, Tryz.f3.params[j]? = some t → args[j]? = some v → Value.okWide Tryz.prog W .any base t v)
    (hW : DataW.Whole enc Tryz.prog Tryz.f3.params.toList Rows.commandReadsSpec.vars false W args.toList ds gs before) (hR : (DataW.weightsEach Tryz.prog (Tryz.f3.params.toList ++ Rows.commandReadsSpec.plain.varTypes Tryz.prog) (ds ++ gs)).all (· ≤ reachBytes) = true) (hL : laidMetH Tryz.prog Rows.commandReadsRow.laid W) :
    Calls Tryz.prog 3 args W fun e W' => ∃ v, e = .returned v ∧ Rows.commandReadsSpec.post enc Tryz.prog Tryz.f3 false true false false W args v W' := by
  have hW' := hW
  obtain ⟨p, q, hA0, hV, rfl, hfz, hnd⟩ := hW
  have hA : DataW.TrodAll enc Tryz.prog W 0 (fun _ => true) true Tryz.f3.params.toList args.toList ds p := hA0
  have hfit : ∀ (j : Nat) t d, Tryz.f3.params.toList[j]? = some t → ds[j]? = some d → Fits Tryz.prog t d := fun j t d h1 h2 => fits_each (fun m hm => of_decide_eq_true (List.all_eq_true.1 hR m hm)) j t d (by rw [List.getElem?_append_left (List.getElem?_eq_some_iff.1 h1).1]; exact h1) (by rw [List.getElem?_append_left (List.getElem?_eq_some_iff.1 h2).1]; exact h2)
  rw [Tryz.params3] at hfit
  rw [Tryz.params3] at hA hval
  obtain ⟨v0, vs0, d0, ds0, p0, q0, hargs, rfl, rfl, h0, r0⟩ := trodAll_cons hA
  obtain ⟨rfl, rfl, rfl⟩ := trodAll_nil r0
  obtain rfl : args = #[v0] := by cases args; simp_all
  obtain ⟨x0, A0, c0, rfl, hx0⟩ := Dt.open_sexp (hval 0 25 v0 rfl rfl) h0 (hfit 0 25 d0 rfl rfl)
  refine (Cm.reads_all (w := W) hx0  (tabOk hL)).mono fun e W' ⟨he, hb⟩ => ⟨_, he, ?_⟩
  exact law_post laidOut (by kernel_rfl) rfl Tryz.underlying4 rfl rfl hW' hb

noncomputable def laidWorld (os : Os) : World := World.doorLaid Tryz.prog 24 os
theorem laid_met (os : Os) : laidMetH Tryz.prog Rows.commandReadsRow.laid ((laidWorld os).forCall (fun _ _ => 0) ⟨#[], #[.agg #[.int .i8 0, .string ⟨#[]⟩, .slice none 0 0]], []⟩).memory :=
  laidMetH_of_parts3 (fuel := 8) (laidMet_of_run' 8 (by kernel_rfl) (by kernel_rfl)) (by kernel_rfl) (by kernel_rfl)
theorem reads (os : Os) {H : Type} (enc : TypeId × Value → H) : ∃ x, DataW.whole enc Tryz.prog ((laidWorld os).forCall (fun _ _ => 0) ⟨#[], #[.agg #[.int .i8 0, .string ⟨#[]⟩, .slice none 0 0]], []⟩).memory Tryz.f3.params.toList Rows.commandReadsSpec.vars false #[Value.agg #[.int .i8 0, .string ⟨#[]⟩, .slice none 0 0]].toList 8 = some ([.agg [.lit (.int .i8 0), .lit (.string []), .nil]], [], x) :=
  ⟨[], by kernel_rfl⟩

set_option maxRecDepth 100000 in
theorem lifted (os : Os) (started : os.Started) (H : Type) (enc : TypeId × Value → H) (F : Stop.Interp) :
    ReturnsInHanded {} Tryz.checked os 3 .any ((OpenSpec.ofChange Rows.commandReadsSpec).preRow enc Tryz.prog Tryz.f3 Rows.commandReadsRow.domain false Rows.commandReadsRow.laid) (((OpenSpec.ofChange Rows.commandReadsSpec).at F).post enc Tryz.prog Tryz.f3 false true false false) := by
  obtain ⟨places, hx⟩ := reads os enc
  refine returnsInHanded_of_row (C := Tryz.checked) (s := OpenSpec.ofChange Rows.commandReadsSpec) own started (by kernel_rfl) Tryz.func3
    (witness_row_at (enc := enc) (C := Tryz.checked) false (laidWorld os) #[.agg #[.int .i8 0, .string ⟨#[]⟩, .slice none 0 0]] rfl (by kernel_rfl) (by kernel_rfl) (by kernel_rfl)
      (OpenSpec.preRow_of_cond 8 hx (by kernel_rfl) (fun k hk => by cases hk) (by kernel_rfl) (laid_met os))) ?_
  intro W base args ds gs before hval hW _ _ hR hL _ _
  exact contract H enc W base args ds gs before hval hW hR hL

theorem said : Rows.CommandReadsSaid :=
  OpenClaim.holds_of_cond 3 Tryz.f3 rfl rfl rfl rfl rfl rfl rfl ⟨rfl, rfl, rfl, rfl, rfl⟩ rfl rfl rfl rfl rfl (by kernel_rfl) Tryz.func3 (by kernel_rfl)
    (of_decide_eq_true (by kernel_rfl)) (by unfold Func.isWrapper; first | (rw [if_pos (by decide +kernel)]; kernel_rfl) | (rw [if_neg (by decide +kernel)]; exact ⟨rfl, rfl⟩))
    (fun os started H enc _ F => by rw [OpenClaim.pre_eq_preRow]; exact lifted os started H enc F)

theorem plain (f : FuncId) (fn : Func) (hf : Tryz.pinned.checked.prog.funcNamed "gantry/gantrylaw08.CommandReads" = some f) (hfn : Tryz.pinned.checked.prog.funcs[f]? = some fn) :
    false = Tryz.pinned.checked.prog.looks [] ∧ ∀ (j : Nat) t, fn.params[j]? = some t → Tryz.pinned.checked.prog.wantsStandIn t = false := by
  obtain rfl : f = 3 := Option.some.inj ((show Tryz.prog.funcNamed "gantry/gantrylaw08.CommandReads" = some 3 by kernel_rfl).symm.trans hf) |>.symm
  obtain rfl : fn = Tryz.f3 := (Option.some.inj (Tryz.func3.symm.trans hfn)).symm
  refine ⟨by kernel_rfl, fun j t ht => ?_⟩
  have hm := Array.mem_of_getElem? ht
  have hall : (Tryz.f3.params.toList.all fun u => !Tryz.prog.wantsStandIn u) = true := by kernel_rfl
  exact (show Tryz.prog.wantsStandIn t = false by simpa using List.all_eq_true.1 hall t (by simpa using hm))

/-- the card -/
theorem card : Rows.CommandReadsCardSaid :=
  Claim7.holds_tied_plain_at .later [] _ _ _ _ said (fun _ h => by cases h) (by kernel_rfl) (fun _ h => by cases h) commandReads_row_tie rfl ⟨rfl, rfl⟩ (by kernel_rfl) rfl plain (by kernel_rfl)
end Go.Proofs.YtbchcipjpcdhfaaGreatDoor.commandReads
