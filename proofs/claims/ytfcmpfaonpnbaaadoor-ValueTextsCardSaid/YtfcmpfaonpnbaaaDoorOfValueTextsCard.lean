import Derived.Test.YtfcmpfaonpnbaaaDoorMt
import Derived.Test.YtfcmpfaonpnbaaaDoorMm
import Derived.Test.YtfcmpfaonpnbaaaDoorCards
import Derived.Test.YtfcmpfaonpnbaaaDoorTie
import Derived.Test.YtfcmpfaonpnbaaaDoorMo
import Derived.Test.YtfcmpfaonpnbaaaDoorMa
/- merged by wip/merge.py from: ValInj ValTexts ValueTextsCard -/
/- Unlike values have unlike texts. No condition. -/
namespace Go.Proofs.YtfcmpfaonpnbaaaDoor.Vl
open Go.RowKit Go.Proofs.YtfcmpfaonpnbaaaDoor.Dt Go.Proofs.YtfcmpfaonpnbaaaDoor.Sg

def dval (l : List UInt8) : Nat := l.foldl (fun a c => a * 10 + (c.toNat - 48)) 0
theorem dval_snoc (l : List UInt8) (c : UInt8) : dval (l ++ [c]) = dval l * 10 + (c.toNat - 48) := by unfold dval; rw [List.foldl_append]; rfl
theorem dig_nat (d : Nat) (h : d < 10) : (UInt8.ofNat (48 + d)).toNat = 48 + d := by simp; omega
theorem dval_dig : ∀ (n u : Nat), u < n → dval (Lib.decDigits u) = u
  | 0, u, h => by omega
  | n + 1, u, h => by
    rw [Lib.decDigits]
    by_cases hu : u < 10
    · rw [dif_pos hu]
      show 0 * 10 + ((UInt8.ofNat (48 + u)).toNat - 48) = u
      rw [dig_nat u hu]; omega
    · rw [dif_neg hu, dval_snoc, dval_dig n (u / 10) (by omega), dig_nat _ (Nat.mod_lt _ (by omega))]
      omega
theorem dig_inj {a b : Nat} (h : Lib.decDigits a = Lib.decDigits b) : a = b := by
  have e := congrArg dval h
  rw [dval_dig (a + 1) a (by omega), dval_dig (b + 1) b (by omega)] at e
  exact e
theorem dig_ge : ∀ (n u : Nat), u < n → ∀ c ∈ Lib.decDigits u, 48 ≤ c.toNat
  | 0, u, h => by omega
  | n + 1, u, h => by
    intro c hc
    rw [Lib.decDigits] at hc
    by_cases hu : u < 10
    · rw [dif_pos hu] at hc
      rw [List.mem_singleton] at hc
      subst hc
      rw [dig_nat u hu]; omega
    · rw [dif_neg hu] at hc
      rcases List.mem_append.1 hc with hc | hc
      · exact dig_ge n (u / 10) (by omega) c hc
      · rw [List.mem_singleton] at hc
        subst hc
        rw [dig_nat _ (Nat.mod_lt _ (by omega))]; omega
theorem text_pos' {n : Int} (hm : mayB n = true) (h : 0 ≤ n) : textL n = Lib.decDigits n.toNat := by
  rw [(text_pos hm (by omega)).1]
  unfold Lib.itoa
  rw [if_neg (by omega)]
theorem text_neg' {n : Int} (hm : mayB n = true) (h : n < 0) : textL n = [40, 45, 32] ++ Lib.decDigits (-n).toNat ++ [41] := by
  rw [(text_neg hm h).1]
  unfold Lib.itoa
  rw [if_neg (by omega)]
theorem textL_inj {a b : Int} (ha : mayB a = true) (hb : mayB b = true) (h : textL a = textL b) : a = b := by
  by_cases h1 : a < 0
  · by_cases h2 : b < 0
    · rw [text_neg' ha h1, text_neg' hb h2] at h
      have e := List.append_cancel_right h
      have e2 := List.append_cancel_left e
      have := dig_inj e2
      omega
    · exfalso
      rw [text_neg' ha h1, text_pos' hb (by omega)] at h
      have : (40 : UInt8) ∈ Lib.decDigits b.toNat := by rw [← h]; simp
      have := dig_ge _ _ (Nat.lt_succ_self _) _ this
      simp at this
  · by_cases h2 : b < 0
    · exfalso
      rw [text_neg' hb h2, text_pos' ha (by omega)] at h
      have : (40 : UInt8) ∈ Lib.decDigits a.toNat := by rw [h]; simp
      have := dig_ge _ _ (Nat.lt_succ_self _) _ this
      simp at this
    · rw [text_pos' ha (by omega), text_pos' hb (by omega)] at h
      have := dig_inj h
      omega
theorem ownT_inj {a b : Int} {s : ByteArray} (ha : mayB a = true) (hb : mayB b = true) (h : ownT a s = ownT b s) : a = b := by
  have e := congrArg Lx.bs h
  unfold ownT at e
  simp only [Lx.bs_append, Lx.bs_mk] at e
  have e1 := List.append_cancel_right e
  have e2 := List.append_cancel_right e1
  have e3 := List.append_cancel_right e2
  exact textL_inj ha hb (List.append_cancel_left e3)
theorem txt_parts {n : Nat} {s v : Int} (h : txtE n s v = 0) : (0 ≤ s ∧ s < 2 + (n : Int)) ∧ mayB v = true ∧ ¬ (s ≠ 1 ∧ v < 0) ∧ ¬ (s = 0 ∧ 1 < v) := by
  unfold txtE at h
  by_cases h1 : 0 ≤ s ∧ s < 2 + (n : Int)
  · rw [decide_eq_true h1] at h
    simp only [Bool.not_true, Bool.false_eq_true, if_false] at h
    cases hm : mayB v with
    | false => rw [hm] at h; simp at h
    | true =>
      rw [hm] at h
      by_cases h2 : s ≠ 1 ∧ v < 0
      · rw [decide_eq_true h2] at h; simp at h
      · by_cases h3 : s = 0 ∧ 1 < v
        · rw [decide_eq_true h3] at h; simp at h
        · exact ⟨h1, rfl, h2, h3⟩
  · rw [decide_eq_false h1] at h; simp at h
theorem txt_inj {l : List ByteArray} {s a b : Int} (ha : txtE l.length s a = 0) (hb : txtE l.length s b = 0) : txtS l s a = txtS l s b ↔ a = b := by
  obtain ⟨h1, h2, h3, h4⟩ := txt_parts ha
  obtain ⟨_, k2, k3, k4⟩ := txt_parts hb
  constructor
  · rw [(txt_ok h1 h2 h3 h4).2, (txt_ok h1 k2 k3 k4).2]
    by_cases s0 : s = 0
    · rw [if_pos s0, if_pos s0]
      have p1 : a = 0 ∨ a = 1 := by omega
      have p2 : b = 0 ∨ b = 1 := by omega
      rcases p1 with rfl | rfl <;> rcases p2 with rfl | rfl
      · intro _; rfl
      · intro h; exact absurd h (by decide)
      · intro h; exact absurd h (by decide)
      · intro _; rfl
    · rw [if_neg s0, if_neg s0]
      by_cases s1 : s = 1
      · rw [if_pos s1, if_pos s1]
        intro h
        have e := congrArg Lx.bs h
        rw [Lx.bs_mk, Lx.bs_mk] at e
        exact textL_inj h2 k2 e
      · rw [if_neg s1, if_neg s1]
        exact ownT_inj h2 k2
  · rintro rfl; rfl
end Go.Proofs.YtfcmpfaonpnbaaaDoor.Vl
/- Unlike values of a sort have unlike texts: the walk of the law. -/
namespace Go.Proofs.YtfcmpfaonpnbaaaDoor.Vl
open Go.RowKit Go.Proofs.YtfcmpfaonpnbaaaDoor.Dt Go.Proofs.YtfcmpfaonpnbaaaDoor.Sg Go.Proofs.YtfcmpfaonpnbaaaDoor.Gr

theorem txt_same {l : List ByteArray} {s a b : Int} (ha : txtE l.length s a = 0) (hb : txtE l.length s b = 0) : ((txtS l s a).toList == (txtS l s b).toList) = (a == b) := by
  rw [Bool.eq_iff_iff, beq_iff_eq, beq_iff_eq]
  constructor
  · intro h
    by_cases e : txtS l s a = txtS l s b
    · exact (txt_inj ha hb).1 e
    · have := text_ne e
      rw [h] at this
      simp at this
  · rintro rfl; rfl
theorem txtE_cases (n : Nat) (s v : Int) : txtE n s v = 0 ∨ txtE n s v = 2 ∨ txtE n s v = 33 := by
  unfold txtE
  split
  · exact .inr (.inl rfl)
  · split
    · exact .inr (.inr rfl)
    · exact .inl rfl
set_option maxRecDepth 100000 in
set_option maxHeartbeats 3200000 in
theorem valueTexts_all {w : World} {A1 A2 A3 : Option Addr} {c1 c2 c3 : Nat} {g : Sig} (hg : SigAt w A1 c1 A2 c2 A3 c3 g) (s a b : Int) (hs : I64 s) (ha : I64 a) (hb : I64 b) (ht : TabOk w) :
    Calls Tryd.prog 5 #[.agg #[.slice A1 g.sorts.length c1, .slice A2 g.funs.length c2, .slice A3 g.macros.length c3], .int .i64 s, .int .i64 a, .int .i64 b] w fun e w' => e = .returned (.bool true) ∧ Below w.heap.size w w' := by
  have HB1 := Lib.hid ((Below.refl w.heap.size w).alloc (Nat.le_refl _) (.cells #[.slice A1 g.sorts.length c1, .slice A2 g.funs.length c2, .slice A3 g.macros.length c3] 26))
  have HGr := Lib.hid (great4_any (hg.on HB1.out))
  have HW := Lib.hid (fun W (hW : Below w.heap.size w W) => wakes_any W (ht.on hW))
  have HTa := Lib.hid (fun W (hW : Below w.heap.size w W) (hn : g.sorts.length ≤ 20) v (hv : I64 v) => vtext_any (c1 := c1) (A2 := A2) (n2 := g.funs.length) (c2 := c2) (A3 := A3) (n3 := g.macros.length) (c3 := c3) (hg.sorts.on StrR.lasts hW) (by omega) s v hs hv (ht.on hW))
  have HIJ := Lib.hid (fun h1 h2 => txt_same (l := g.sorts) (s := s) (a := a) (b := b) h1 h2)
  have HEa := Lib.hid (txtE_cases g.sorts.length s a)
  have HEb := Lib.hid (txtE_cases g.sorts.length s b)
  have HI := Lib.hid (And.intro ha hb)
  obtain ⟨g0, g1, g2⟩ := sig_cells w (.slice A1 g.sorts.length c1) (.slice A2 g.funs.length c2) (.slice A3 g.macros.length c3) 26
  have hz : w.heap.size < (w.alloc (.cells #[.slice A1 g.sorts.length c1, .slice A2 g.funs.length c2, .slice A3 g.macros.length c3] 26)).heap.size := by simp
  have HC := Lib.hid (fun W hW => three_cells (w' := W) (b := w.heap.size) hW hz g0 g1 g2)
  have HSmall := Lib.hid (fun (h : Small g) => (show g.sorts.length ≤ 20 ∧ g.funs.length ≤ 40 ∧ g.macros.length ≤ 40 from h))
  clear hg ht g0 g1 g2 hz
  generalize g.sorts.length = n1 at *
  generalize g.funs.length = n2 at *
  generalize g.macros.length = n3 at *
  go_enter Tryd.func5, Tryd.ntmps5
  go_wp2_with fail
  generalize w.alloc (.cells #[.slice A1 n1 c1, .slice A2 n2 c2, .slice A3 n3 c3] 26) = w1 at *
  refine HGr.out.mono ?_
  rintro e w2 ⟨⟨gb, rfl, hsm⟩, hb2⟩
  have HB2 := Lib.hid (HB1.out.trans (hb2.mono HB1.out.size))
  obtain ⟨q0, q1, q2⟩ := HC.out w2 hb2
  have HD2 := Lib.hid hb2
  have HSm := Lib.hid hsm
  clear hb2 hsm
  cases gb with
  | true =>
    go_wp2_with fail
    refine (HW.out w2 HB2.out).mono ?_
    rintro e w3 ⟨rfl, hb3⟩
    have HB3 := Lib.hid (HB2.out.trans (hb3.mono HB2.out.size))
    clear hb3
    go_wp2_with fail
    go_ret
    exact ⟨rfl, HB3.out⟩
  | false =>
    have HS := Lib.hid (HSmall.out (HSm.out rfl)).1
    have hca := HTa.out w2 HB2.out HS.out a HI.out.1
    have hcb := fun W hW => HTa.out W hW HS.out b HI.out.2
    have HCb := Lib.hid hcb
    clear hcb HTa HS HSmall HSm HGr
    go_wp2_with fail
    refine hca.mono ?_
    rintro e w3 ⟨rfl, hb3⟩
    have HB3 := Lib.hid (HB2.out.trans (hb3.mono HB2.out.size))
    obtain ⟨q0, q1, q2⟩ := HC.out w3 (HD2.out.trans (hb3.mono HD2.out.size))
    have hcall := HCb.out w3 HB3.out
    clear hb3 hca
    generalize txtS g.sorts s a = sa at *
    generalize txtE n1 s a = ea at *
    go_wp2_with fail
    refine hcall.mono ?_
    rintro e w4 ⟨rfl, hb4⟩
    have HB4 := Lib.hid (HB3.out.trans (hb4.mono HB3.out.size))
    clear hb4 hcall HCb q0 q1 q2
    generalize txtS g.sorts s b = sb at *
    generalize txtE n1 s b = eb at *
    have HW4 := Lib.hid (HW.out w4 HB4.out)
    rcases HEa.out with rfl | rfl | rfl
    · rcases HEb.out with rfl | rfl | rfl
      · have HEq := Lib.hid (HIJ.out rfl rfl)
        generalize hx : (sa.toList == sb.toList) = x at *
        generalize hy : (a == b) = y at *
        have hxy : x = y := HEq.out
        subst hxy
        have hxx : (x == x) = true := by simp
        go_wp2_with fail
        refine HW4.out.mono ?_
        rintro e w5 ⟨rfl, hb5⟩
        have HB5 := Lib.hid (HB4.out.trans (hb5.mono HB4.out.size))
        clear hb5
        go_wp2_with fail
        go_ret
        exact ⟨rfl, HB5.out⟩
      all_goals
        go_wp2_with fail
        refine HW4.out.mono ?_
        rintro e w5 ⟨rfl, hb5⟩
        have HB5 := Lib.hid (HB4.out.trans (hb5.mono HB4.out.size))
        clear hb5
        go_wp2_with fail
        go_ret
        exact ⟨rfl, HB5.out⟩
    all_goals
      go_wp2_with fail
      refine HW4.out.mono ?_
      rintro e w5 ⟨rfl, hb5⟩
      have HB5 := Lib.hid (HB4.out.trans (hb5.mono HB4.out.size))
      clear hb5
      go_wp2_with fail
      go_ret
      exact ⟨rfl, HB5.out⟩
end Go.Proofs.YtfcmpfaonpnbaaaDoor.Vl
/- ValueTexts: for any input the law answers true, and each argument reads as before: the tied card. -/
namespace Go.Proofs.YtfcmpfaonpnbaaaDoor.valueTexts
open Go.RowKit Go.ChangeShapes Go.WideShapes Go.ChangeAt Go.WideMaps Go.WideElems
open Go.ChangeMaps (setBlock shut_map_nil open_string shut_string keptBut_setBlock frozen?_setBlock heap_setBlock_same)

theorem gTabType : (Tryd.prog.globals[0]?).map (·.type) = some 132 := by kernel_rfl
theorem cellsTab : Tryd.prog.cellsOf 132 = 20 := by kernel_rfl
theorem cellsU64 : Tryd.prog.cellsOf 110 = 1 := by kernel_rfl
theorem tabOk {W : World} (h : laidMetH Tryd.prog Rows.valueTextsRow.laid W) : TabOk W := by
  have h2 := h.filter (fun x => x.1 == "internal/strconv.uint64pow10")
  rw [MakeChecks.laidMetH_plain _ _ _ (by kernel_rfl)] at h2
  exact Lib.tabIs_of_head (rest := []) gTab gTabType Tryd.underlying132 Tryd.underlying110 cellsU64 cellsTab h2
theorem cellsInt : Tryd.prog.cellsOf 3 = 1 := by kernel_rfl

set_option maxRecDepth 100000 in
theorem contract (H : Type) (enc : TypeId × Value → H) (W : World) (base : Nat) (args : Array Value) (ds gs : List (DataW H)) (before : List MemPlace)
    (hval : ∀ (j : Nat) t v, Tryd.f5.params[j]? = some t → args[j]? = some v → Value.okWide Tryd.prog W .any base t v)
    (hW : DataW.Whole enc Tryd.prog Tryd.f5.params.toList Rows.valueTextsSpec.vars false W args.toList ds gs before) (hR : (DataW.weightsEach Tryd.prog (Tryd.f5.params.toList ++ Rows.valueTextsSpec.plain.varTypes Tryd.prog) (ds ++ gs)).all (· ≤ reachBytes) = true) (hL : laidMetH Tryd.prog Rows.valueTextsRow.laid W) :
    Calls Tryd.prog 5 args W fun e W' => ∃ v, e = .returned v ∧ Rows.valueTextsSpec.post enc Tryd.prog Tryd.f5 false true false false W args v W' := by
  have hW' := hW
  obtain ⟨p, q, hA0, hV, rfl, hfz, hnd⟩ := hW
  have hA : DataW.TrodAll enc Tryd.prog W 0 (fun _ => true) true Tryd.f5.params.toList args.toList ds p := hA0
  have hfit : ∀ (j : Nat) t d, Tryd.f5.params.toList[j]? = some t → ds[j]? = some d → Fits Tryd.prog t d := fun j t d h1 h2 => fits_each (fun m hm => of_decide_eq_true (List.all_eq_true.1 hR m hm)) j t d (by rw [List.getElem?_append_left (List.getElem?_eq_some_iff.1 h1).1]; exact h1) (by rw [List.getElem?_append_left (List.getElem?_eq_some_iff.1 h2).1]; exact h2)
  rw [Tryd.params5] at hfit
  rw [Tryd.params5] at hA hval
  obtain ⟨v0, vs0, d0, ds0, p0, q0, hargs, rfl, rfl, h0, r0⟩ := trodAll_cons hA
  obtain ⟨v1, vs1, d1, ds1, p1, q1, rfl, rfl, rfl, h1, r1⟩ := trodAll_cons r0
  obtain ⟨v2, vs2, d2, ds2, p2, q2, rfl, rfl, rfl, h2, r2⟩ := trodAll_cons r1
  obtain ⟨v3, vs3, d3, ds3, p3, q3, rfl, rfl, rfl, h3, r3⟩ := trodAll_cons r2
  obtain ⟨rfl, rfl, rfl⟩ := trodAll_nil r3
  obtain rfl : args = #[v0, v1, v2, v3] := by cases args; simp_all
  obtain ⟨g0, A0_0, c0_0, A0_1, c0_1, A0_2, c0_2, rfl, hg0⟩ := Dt.open_sig (hval 0 26 v0 rfl rfl) h0 (hfit 0 26 d0 rfl rfl)
  obtain ⟨a1, rfl, rfl, rfl, wa1⟩ := Go.ChangeShapes.open_int Tryd.underlying3 (hval 1 3 v1 rfl rfl) h1
  obtain ⟨a2, rfl, rfl, rfl, wa2⟩ := Go.ChangeShapes.open_int Tryd.underlying3 (hval 2 3 v2 rfl rfl) h2
  obtain ⟨a3, rfl, rfl, rfl, wa3⟩ := Go.ChangeShapes.open_int Tryd.underlying3 (hval 3 3 v3 rfl rfl) h3
  refine (Vl.valueTexts_all (w := W) hg0 a1 a2 a3 (bounds_i64 wa1) (bounds_i64 wa2) (bounds_i64 wa3) (tabOk hL)).mono fun e W' ⟨he, hb⟩ => ⟨_, he, ?_⟩
  exact law_post laidOut (by kernel_rfl) rfl Tryd.underlying4 rfl rfl hW' hb

noncomputable def laidWorld (os : Os) : World := World.doorLaid Tryd.prog 24 os
theorem laid_met (os : Os) : laidMetH Tryd.prog Rows.valueTextsRow.laid ((laidWorld os).forCall (fun _ _ => 0) ⟨#[], #[.agg #[.slice none 0 0, .slice none 0 0, .slice none 0 0], .int .i64 0, .int .i64 0, .int .i64 0], []⟩).memory :=
  laidMetH_of_parts3 (fuel := 8) (laidMet_of_run' 8 (by kernel_rfl) (by kernel_rfl)) (by kernel_rfl) (by kernel_rfl)
theorem reads (os : Os) {H : Type} (enc : TypeId × Value → H) : ∃ x, DataW.whole enc Tryd.prog ((laidWorld os).forCall (fun _ _ => 0) ⟨#[], #[.agg #[.slice none 0 0, .slice none 0 0, .slice none 0 0], .int .i64 0, .int .i64 0, .int .i64 0], []⟩).memory Tryd.f5.params.toList Rows.valueTextsSpec.vars false #[Value.agg #[.slice none 0 0, .slice none 0 0, .slice none 0 0], .int .i64 0, .int .i64 0, .int .i64 0].toList 8 = some ([.agg [.nil, .nil, .nil], .lit (.int .i64 0), .lit (.int .i64 0), .lit (.int .i64 0)], [], x) :=
  ⟨[], by kernel_rfl⟩

set_option maxRecDepth 100000 in
theorem lifted (os : Os) (started : os.Started) (H : Type) (enc : TypeId × Value → H) (F : Stop.Interp) :
    ReturnsInHanded {} Tryd.checked os 5 .any ((OpenSpec.ofChange Rows.valueTextsSpec).preRow enc Tryd.prog Tryd.f5 Rows.valueTextsRow.domain false Rows.valueTextsRow.laid) (((OpenSpec.ofChange Rows.valueTextsSpec).at F).post enc Tryd.prog Tryd.f5 false true false false) := by
  obtain ⟨places, hx⟩ := reads os enc
  refine returnsInHanded_of_row (C := Tryd.checked) (s := OpenSpec.ofChange Rows.valueTextsSpec) own started (by kernel_rfl) Tryd.func5
    (witness_row_at (enc := enc) (C := Tryd.checked) false (laidWorld os) #[.agg #[.slice none 0 0, .slice none 0 0, .slice none 0 0], .int .i64 0, .int .i64 0, .int .i64 0] rfl (by kernel_rfl) (by kernel_rfl) (by kernel_rfl)
      (OpenSpec.preRow_of_cond 8 hx (by kernel_rfl) (fun k hk => by cases hk) (by kernel_rfl) (laid_met os))) ?_
  intro W base args ds gs before hval hW _ _ hR hL _ _
  exact contract H enc W base args ds gs before hval hW hR hL

theorem said : Rows.ValueTextsSaid :=
  OpenClaim.holds_of_cond 5 Tryd.f5 rfl rfl rfl rfl rfl rfl rfl ⟨rfl, rfl, rfl, rfl, rfl⟩ rfl rfl rfl rfl rfl (by kernel_rfl) Tryd.func5 (by kernel_rfl)
    (of_decide_eq_true (by kernel_rfl)) (by unfold Func.isWrapper; first | (rw [if_pos (by decide +kernel)]; kernel_rfl) | (rw [if_neg (by decide +kernel)]; exact ⟨rfl, rfl⟩))
    (fun os started H enc _ F => by rw [OpenClaim.pre_eq_preRow]; exact lifted os started H enc F)

theorem plain (f : FuncId) (fn : Func) (hf : Tryd.pinned.checked.prog.funcNamed "gantry/gantrylaw09.ValueTexts" = some f) (hfn : Tryd.pinned.checked.prog.funcs[f]? = some fn) :
    false = Tryd.pinned.checked.prog.looks [] ∧ ∀ (j : Nat) t, fn.params[j]? = some t → Tryd.pinned.checked.prog.wantsStandIn t = false := by
  obtain rfl : f = 5 := Option.some.inj ((show Tryd.prog.funcNamed "gantry/gantrylaw09.ValueTexts" = some 5 by kernel_rfl).symm.trans hf) |>.symm
  obtain rfl : fn = Tryd.f5 := (Option.some.inj (Tryd.func5.symm.trans hfn)).symm
  refine ⟨by kernel_rfl, fun j t ht => ?_⟩
  have hm := Array.mem_of_getElem? ht
  have hall : (Tryd.f5.params.toList.all fun u => !Tryd.prog.wantsStandIn u) = true := by kernel_rfl
  exact (show Tryd.prog.wantsStandIn t = false by simpa using List.all_eq_true.1 hall t (by simpa using hm))

/-- the card -/
theorem card : Rows.ValueTextsCardSaid :=
  Claim7.holds_tied_plain_at .later [] _ _ _ _ said (fun _ h => by cases h) (by kernel_rfl) (fun _ h => by cases h) valueTexts_row_tie rfl ⟨rfl, rfl⟩ (by kernel_rfl) rfl plain (by kernel_rfl)
end Go.Proofs.YtfcmpfaonpnbaaaDoor.valueTexts
