import Derived.Test.YtbchcipjpcdhfaaGreatDoorMt
/- merged by wip/merge.py from: R8Parse -/
/- The document's reading of commands: parse. -/
namespace Go.Proofs.YtbchcipjpcdhfaaGreatDoor.Cm
open Go.RowKit Go.Proofs.YtbchcipjpcdhfaaGreatDoor.Dt

def formB (h : ByteArray) (r : List Sexp) : Option Cmd :=
  if h = sLogic then oneO r fun x => (symN x).map fun t => { noCmd with kind := 0, name := t }
  else if h = sOption then optionO r
  else if h = sSort then sortO r
  else if h = sFun then funO r
  else if h = sDefine then defineO r
  else if h = sAssert then oneO r fun x => some { noCmd with kind := 5, terms := [x] }
  else if h = sPush then oneO r fun x => (smallN x 8).map fun n => { noCmd with kind := 6, n := n }
  else if h = sPop then oneO r fun x => (smallN x 8).map fun n => { noCmd with kind := 7, n := n }
  else if h = sValue then valueO r
  else none
theorem formO_eq (h : ByteArray) (r : List Sexp) : formO h r = match bareK h with | some k => bareO r k | none => formB h r := by
  unfold formO bareK
  by_cases h1 : h = sCheck
  · rw [if_pos h1, if_pos h1]
  rw [if_neg h1, if_neg h1]
  by_cases h2 : h = sModel
  · rw [if_pos h2, if_pos h2]
  rw [if_neg h2, if_neg h2]
  by_cases h3 : h = sProof
  · rw [if_pos h3, if_pos h3]
  rw [if_neg h3, if_neg h3]
  by_cases h4 : h = sExit
  · rw [if_pos h4, if_pos h4]
  rw [if_neg h4, if_neg h4]
  rfl
theorem bareK_size {h : ByteArray} {k : Int} (hk : bareK h = some k) : (Lit.int .i8 k).wf = true := by
  unfold bareK at hk
  (repeat' split at hk) <;> (first | (obtain rfl := Option.some.inj hk; decide) | cases hk)
theorem tail_two {xs : List Sexp} {z : Sexp} (hz : xs[1]? = some z) (h2 : xs.length = 2) : xs.tail = [z] := by
  obtain ⟨a, b, rfl⟩ := two_of h2
  simp at hz
  subst hz
  rfl
theorem oneO_len {xs : List Sexp} {f : Sexp → Option Cmd} (h : xs.length ≠ 2) : oneO xs.tail f = none := by
  match xs, h with
  | [], _ => rfl
  | [_], _ => rfl
  | [_, _], h => exact absurd rfl h
  | _ :: _ :: _ :: _, _ => rfl
theorem valueO_len {xs : List Sexp} (h : xs.length ≠ 2) : valueO xs.tail = none := by
  match xs, h with
  | [], _ => rfl
  | [_], _ => rfl
  | [_, _], h => exact absurd rfl h
  | _ :: _ :: _ :: _, _ => rfl
theorem valueO_one (z : Sexp) : valueO [z] = if z.kind = 3 then (if 1 ≤ z.l.length ∧ z.l.length ≤ 16 then some { noCmd with kind := 10, terms := z.l } else none) else none := by
  show (listN z).bind _ = _
  unfold listN
  split <;> rfl
theorem bareO_len {xs : List Sexp} {k : Int} : bareO xs.tail k = if xs.length ≤ 1 then some { noCmd with kind := k } else none := by
  match xs with
  | [] => rfl
  | [_] => rfl
  | _ :: _ :: _ => rw [if_neg (by simp)]; rfl
theorem parseO_at {x : Sexp} {y : Sexp} (hy : x.l[0]? = some y) (hk : x.kind = 3) (h0 : y.kind = 0) : parseO x = formO y.text x.l.tail := by
  cases x with
  | mk k t l =>
    cases l with
    | nil => cases hy
    | cons a l =>
      have ha : a = y := Option.some.inj hy
      subst ha
      show (if k = 3 ∧ a.kind = 0 then formO a.text l else none) = _
      rw [if_pos ⟨hk, h0⟩]
      rfl
theorem parseO_no {x : Sexp} (h : x.kind ≠ 3 ∨ x.l = [] ∨ ∃ y, x.l[0]? = some y ∧ y.kind ≠ 0) : parseO x = none := by
  cases x with
  | mk k t l =>
    cases l with
    | nil => rfl
    | cons a l =>
      show (if k = 3 ∧ a.kind = 0 then formO a.text l else none) = none
      rw [if_neg]
      rintro ⟨h1, h2⟩
      rcases h with h | h | ⟨y, hy, h⟩
      · exact h h1
      · cases h
      · have ha : a = y := Option.some.inj hy
        subst ha
        exact h h2
theorem rcmd_ret {w : World} {b : Nat} {vs : Array Value} {act : Act} {t : TypeId} {R : Ending → World → Prop} {E : Bool} (hb : w.heap[b]? = some (.cells vs t (0, 0))) (hv : vs.size = 8) (h2 : act.tmps[2]? = some (.pointer (some ⟨b, 0, none⟩))) (h3 : act.tmps[3]? = some (.bool E)) (hd : act.defers = []) (hR : R (.returned (.tuple #[.agg vs, .bool E])) w) :
    bodyPost Tryz.prog Tryz.f35 R .ret act w := by
  obtain ⟨v0, v1, v2, v3, v4, v5, v6, v7, e⟩ := list8 (l := vs.toList) (by simpa using hv)
  obtain rfl : vs = #[v0, v1, v2, v3, v4, v5, v6, v7] := Array.toList_inj.1 e
  have y0 := cell_of_cells hb 0
  have y1 := cell_of_cells hb 1
  have y2 := cell_of_cells hb 2
  have y3 := cell_of_cells hb 3
  have y4 := cell_of_cells hb 4
  have y5 := cell_of_cells hb 5
  have y6 := cell_of_cells hb 6
  have y7 := cell_of_cells hb 7
  refine bodyPost_ret (v := .tuple #[.agg #[v0, v1, v2, v3, v4, v5, v6, v7], .bool E]) ?_ hd hR
  simp at y0 y1 y2 y3 y4 y5 y6 y7
  simp [results, Tryz.results35, go_sem, y0, y1, y2, y3, y4, y5, y6, y7, h2, h3]
set_option linter.unusedSimpArgs false in
set_option maxHeartbeats 6400000 in
theorem rparse_any8 {W0 w : World} {A : Option Addr} {c : Nat} {x : Sexp} (hr : SexpR W0 [.int .i8 x.kind, .string x.text, .slice A x.l.length c] x) (hb : Below W0.heap.size W0 w) :
    Calls Tryz.prog 35 #[agS x A c] w (OptRes W0.heap.size w (parseO x)) := by
  obtain ⟨_, _, e, hl, hlc, hlm, _, hlb, _⟩ := hr.open'
  simp only [List.cons.injEq, Value.slice.injEq, and_true, true_and] at e
  obtain ⟨rfl, rfl⟩ := e
  have HX := Lib.hid hl
  have HB := Lib.hid hb
  have HLc := Lib.hid (And.intro hlc (And.intro hlm hlb))
  have HPno := Lib.hid (fun h => parseO_no (x := x) h)
  have HPat := Lib.hid (fun y hy hk h0 => parseO_at (x := x) (y := y) hy hk h0)
  clear hr hb hl hlc hlm hlb
  unfold agS
  generalize parseO x = po at *
  generalize x.l = xs at *
  generalize x.kind = xk at *
  generalize x.text = xt at *
  go_enter Tryz.func35, Tryz.ntmps35
  go_upto_region 1 with fail
  have XB := Lib.hid (show ((w.alloc (.cells #[.int .i8 xk, .string xt, .slice A xs.length c] 25)).alloc (.cells #[.int .i8 0, .string { data := #[] }, .int .i64 0, .slice none 0 0, .slice none 0 0, .slice none 0 0, .string { data := #[] }, .slice none 0 0] 32)).heap[w.heap.size]? = _ from (Below.heap_alloc _ _ _ (by simp)).trans (blk_new w _))
  have RB := Lib.hid (blk_new2 w (.cells #[.int .i8 xk, .string xt, .slice A xs.length c] 25) (.cells #[.int .i8 0, .string { data := #[] }, .int .i64 0, .slice none 0 0, .slice none 0 0, .slice none 0 0, .string { data := #[] }, .slice none 0 0] 32))
  have B1 := Lib.hid (((Below.refl w.heap.size w).alloc (Nat.le_refl _) (.cells #[.int .i8 xk, .string xt, .slice A xs.length c] 25)).alloc (by simp) (.cells #[.int .i8 0, .string { data := #[] }, .int .i64 0, .slice none 0 0, .slice none 0 0, .slice none 0 0, .string { data := #[] }, .slice none 0 0] 32))
  generalize ((w.alloc (.cells #[.int .i8 xk, .string xt, .slice A xs.length c] 25)).alloc (.cells #[.int .i8 0, .string { data := #[] }, .int .i64 0, .slice none 0 0, .slice none 0 0, .slice none 0 0, .string { data := #[] }, .slice none 0 0] 32)) = w1 at *
  obtain ⟨q0, q1, q2, _⟩ := three_cells XB.out
  by_cases hk : xk = 3
  rotate_left
  · have hk' : (xk != 3) = true := by rw [bne, beq_eq_false_iff_ne.2 hk]; rfl
    have HO := Lib.hid (HPno.out (.inl hk))
    clear hk
    obtain ⟨z0, z1, z2, z3, z4, z5, z6, z7, zf⟩ := eight_cells RB.out
    go_wp2_with fail
    exact rcmd_ret (w := set8 w1 (w.heap.size + 1) _ _ _ _ _ _ _ _) (eight_set RB.out _ _ _ _ _ _ _ _) rfl rfl rfl rfl (opt_none HO.out (set8_keeps (S := fun _ => False) (Keeps.of_below B1.out _) (.inr (by omega)) _ _ _ _ _ _ _ _).none_below _ _ _ _ _ _ _ _ _ _ _ _ _ _ _ _)
  have hk' : (xk != 3) = false := by rw [hk]; rfl
  by_cases hl0 : xs.length = 0
  · have hl0' : ((xs.length : Int) == 0) = true := by simp; exact List.length_eq_zero_iff.1 hl0
    have HO := Lib.hid (HPno.out (.inr (.inl (List.length_eq_zero_iff.1 hl0))))
    clear hk hl0
    obtain ⟨z0, z1, z2, z3, z4, z5, z6, z7, zf⟩ := eight_cells RB.out
    go_wp2_with fail
    exact rcmd_ret (w := set8 w1 (w.heap.size + 1) _ _ _ _ _ _ _ _) (eight_set RB.out _ _ _ _ _ _ _ _) rfl rfl rfl rfl (opt_none HO.out (set8_keeps (S := fun _ => False) (Keeps.of_below B1.out _) (.inr (by omega)) _ _ _ _ _ _ _ _).none_below _ _ _ _ _ _ _ _ _ _ _ _ _ _ _ _)
  have hl0' : ((xs.length : Int) == 0) = false := by rw [beq_eq_false_iff_ne]; omega
  have l0 : (0 : Int) < (xs.length : Int) := by omega
  have hy := List.getElem?_eq_getElem (l := xs) (i := 0) (by omega)
  generalize xs[0] = y at hy
  obtain ⟨b, o, A1, c1, rfl, hc1, hr1⟩ := part_cells HX.out hy
  simp only [Nat.zero_mul, Nat.add_assoc, Nat.add_zero] at hc1
  have C1 := Lib.hid hc1
  have Hy := Lib.hid hy
  have HyT := Lib.hid (show (y.text.size : Int) ≤ 140737488351232 by obtain ⟨_, _, _, _, _, _, h1, _⟩ := hr1.open'; exact h1)
  have HIs := Lib.hid (fun W => rissym_any (w := W) y A1 c1)
  have W1 := Lib.hid (HB.out.trans (B1.out.mono HB.out.size))
  have HLp := Lib.hid (show 0 < xs.length by omega)
  clear hl0 hy hc1 hr1
  unfold agS at HIs
  obtain ⟨x0, x1, x2⟩ := C1.out w1 W1.out
  go_wp2_with fail
  refine (HIs.out _).mono ?_
  rintro e w2 ⟨rfl, hb2⟩
  have RB2 := Lib.hid ((hb2.block _ (lt_of_block RB.out)).trans RB.out)
  have XB2 := Lib.hid ((hb2.block _ (lt_of_block XB.out)).trans XB.out)
  have B2 := Lib.hid (B1.out.trans (hb2.mono B1.out.size))
  have W2 := Lib.hid (HB.out.trans (B2.out.mono HB.out.size))
  clear hb2 x0 x1 x2 q0 q1 q2 RB XB B1 W1 HIs
  obtain ⟨x0, x1, x2⟩ := C1.out w2 W2.out
  by_cases h0 : y.kind = 0
  rotate_left
  · rw [decide_eq_false h0]
    have HO := Lib.hid (HPno.out (.inr (.inr ⟨y, Hy.out, h0⟩)))
    clear h0 hk
    obtain ⟨z0, z1, z2, z3, z4, z5, z6, z7, zf⟩ := eight_cells RB2.out
    go_wp2_with fail
    exact rcmd_ret (w := set8 w2 (w.heap.size + 1) _ _ _ _ _ _ _ _) (eight_set RB2.out _ _ _ _ _ _ _ _) rfl rfl rfl rfl (opt_none HO.out (set8_keeps (S := fun _ => False) (Keeps.of_below B2.out _) (.inr (by omega)) _ _ _ _ _ _ _ _).none_below _ _ _ _ _ _ _ _ _ _ _ _ _ _ _ _)
  rw [decide_eq_true h0]
  have HF0 := Lib.hid (HPat.out y Hy.out hk h0)
  have HBa := Lib.hid (fun W => rbare_any (w := W) y.text)
  clear h0 hk hk' hl0' HPno HPat
  generalize hh : y.text = h at *
  cases hbk : bareK h with
  | some k =>
    have HF := Lib.hid (show po = if xs.length ≤ 1 then some { noCmd with kind := k } else none by rw [HF0.out, formO_eq, hbk]; exact bareO_len)
    have HBk := Lib.hid hbk
    have HkW := Lib.hid (bareK_size hbk)
    clear hbk hh
    rw [HBk.out] at HBa
    by_cases h1 : xs.length = 1
    · have h1' : ((xs.length : Int) == 1) = true := by simp; omega
      have HO := Lib.hid (show po = some { noCmd with kind := k } from HF.out.trans (if_pos (by omega)))
      clear h1
      go_wp2_with fail
      refine (HBa.out _).mono ?_
      rintro e w3 ⟨rfl, rfl⟩
      obtain ⟨z0, z1, z2, z3, z4, z5, z6, z7, zf⟩ := eight_cells RB2.out
      go_wp2_with fail
      refine rcmd_ret (w := set8 w3 (w.heap.size + 1) _ _ _ _ _ _ _ _) (eight_set RB2.out _ _ _ _ _ _ _ _) rfl rfl rfl rfl (opt_some HO.out (set8_keeps (S := fun _ => False) (Keeps.of_below B2.out _) (.inr (by omega)) _ _ _ _ _ _ _ _).none_below _ _ _ _ _ _ _ _ _ _ _ _ _ _ _ _ (fun W' hW => ?_))
      exact cmdR_zero W' { noCmd with kind := k } rfl rfl rfl rfl HkW.out (show I64 0 from ⟨by decide, by decide⟩) (show ((noS.size : Nat) : Int) ≤ 140737488351232 by decide) (show ((noS.size : Nat) : Int) ≤ 140737488351232 by decide)
    · have h1' : ((xs.length : Int) == 1) = false := by rw [beq_eq_false_iff_ne]; omega
      have HO := Lib.hid (show po = none from HF.out.trans (if_neg (by have := HLp.out; omega)))
      clear h1
      go_wp2_with fail
      refine (HBa.out _).mono ?_
      rintro e w3 ⟨rfl, rfl⟩
      obtain ⟨z0, z1, z2, z3, z4, z5, z6, z7, zf⟩ := eight_cells RB2.out
      go_wp2_with fail
      exact rcmd_ret (w := set8 w3 (w.heap.size + 1) _ _ _ _ _ _ _ _) (eight_set RB2.out _ _ _ _ _ _ _ _) rfl rfl rfl rfl (opt_none HO.out (set8_keeps (S := fun _ => False) (Keeps.of_below B2.out _) (.inr (by omega)) _ _ _ _ _ _ _ _).none_below _ _ _ _ _ _ _ _ _ _ _ _ _ _ _ _)
  | none =>
    have HF := Lib.hid (show po = formB h xs.tail by rw [HF0.out, formO_eq, hbk])
    rw [hbk] at HBa
    clear hbk hh HF0
    go_wp2_with fail
    refine (HBa.out _).mono ?_
    rintro e w3 ⟨rfl, rfl⟩
    clear HBa
    by_cases esLogic : h = sLogic
    · have qsLogic : (h.toList == [115, 101, 116, 45, 108, 111, 103, 105, 99]) = true := tl_true esLogic
      have HF2 := Lib.hid (show po = oneO xs.tail (fun x => (symN x).map fun t => { noCmd with kind := 0, name := t }) by rw [HF.out]; unfold formB; rw [if_pos esLogic])
      clear esLogic
      by_cases h2 : xs.length = 2
      rotate_left
      · have h2' : ((xs.length : Int) != 2) = true := by simp; omega
        have HO := Lib.hid (show po = none by rw [HF2.out]; exact oneO_len h2)
        clear h2
        obtain ⟨z0, z1, z2, z3, z4, z5, z6, z7, zf⟩ := eight_cells RB2.out
        go_wp2_with fail
        exact rcmd_ret (w := set8 w3 (w.heap.size + 1) _ _ _ _ _ _ _ _) (eight_set RB2.out _ _ _ _ _ _ _ _) rfl rfl rfl rfl (opt_none HO.out (set8_keeps (S := fun _ => False) (Keeps.of_below B2.out _) (.inr (by omega)) _ _ _ _ _ _ _ _).none_below _ _ _ _ _ _ _ _ _ _ _ _ _ _ _ _)
      have h2' : ((xs.length : Int) != 2) = false := by simp; omega
      have l1 : (1 : Int) < (xs.length : Int) := by omega
      have hz := List.getElem?_eq_getElem (l := xs) (i := 1) (by omega)
      generalize xs[1] = z at hz
      obtain ⟨b', o', A3, c3, hA, hc3, hr3⟩ := part_cells HX.out hz
      simp only [Option.some.injEq, Addr.mk.injEq, and_true] at hA
      obtain ⟨rfl, rfl⟩ := hA
      simp only [Nat.reduceMul, Nat.add_assoc, Nat.reduceAdd] at hc3
      have HzT := Lib.hid (show (z.text.size : Int) ≤ 140737488351232 by obtain ⟨_, _, _, _, _, _, h1, _⟩ := hr3.open'; exact h1)
      have Hz := Lib.hid (tail_two hz h2)
      have C3 := Lib.hid hc3
      have H2 := Lib.hid h2
      have R3 := Lib.hid hr3
      clear hz hc3 hr3
      obtain ⟨u0, u1, u2⟩ := C3.out w3 W2.out
      have HIs := Lib.hid (fun W => rissym_any (w := W) z A3 c3)
      unfold agS at HIs
      have HF3 := Lib.hid (show po = (symN z).map fun t => { noCmd with kind := 0, name := t } by rw [HF2.out, Hz.out]; rfl)
      clear h2
      go_wp2_with fail
      refine (HIs.out _).mono ?_
      rintro e w4 ⟨rfl, hb4⟩
      have RB4 := Lib.hid ((hb4.block _ (lt_of_block RB2.out)).trans RB2.out)
      have B4 := Lib.hid (B2.out.trans (hb4.mono B2.out.size))
      clear hb4 u0 u1 u2 x0 x1 x2 RB2 B2 HIs
      obtain ⟨u0, u1, u2⟩ := C3.out w4 (HB.out.trans (B4.out.mono HB.out.size))
      by_cases hz0 : z.kind = 0
      · rw [decide_eq_true hz0]
        have HO := Lib.hid (show po = some { noCmd with kind := 0, name := z.text } by rw [HF3.out, symN_yes hz0]; rfl)
        clear hz0
        obtain ⟨z0, z1, z2, z3, z4, z5, z6, z7, zf⟩ := eight_cells RB4.out
        go_wp2_with fail
        refine rcmd_ret (w := set8 w4 (w.heap.size + 1) _ _ _ _ _ _ _ _) (eight_set RB4.out _ _ _ _ _ _ _ _) rfl rfl rfl rfl (opt_some HO.out (set8_keeps (S := fun _ => False) (Keeps.of_below B4.out _) (.inr (by omega)) _ _ _ _ _ _ _ _).none_below _ _ _ _ _ _ _ _ _ _ _ _ _ _ _ _ (fun W' hW => ?_))
        exact cmdR_zero W' { noCmd with kind := 0, name := z.text } rfl rfl rfl rfl (show (Lit.int .i8 0).wf = true by decide) (show I64 0 from ⟨by decide, by decide⟩) HzT.out (show ((noS.size : Nat) : Int) ≤ 140737488351232 by decide)
      · rw [decide_eq_false hz0]
        have HO := Lib.hid (show po = none by rw [HF3.out, symN_no hz0]; rfl)
        clear hz0
        obtain ⟨z0, z1, z2, z3, z4, z5, z6, z7, zf⟩ := eight_cells RB4.out
        go_wp2_with fail
        exact rcmd_ret (w := set8 w4 (w.heap.size + 1) _ _ _ _ _ _ _ _) (eight_set RB4.out _ _ _ _ _ _ _ _) rfl rfl rfl rfl (opt_none HO.out (set8_keeps (S := fun _ => False) (Keeps.of_below B4.out _) (.inr (by omega)) _ _ _ _ _ _ _ _).none_below _ _ _ _ _ _ _ _ _ _ _ _ _ _ _ _)
    have qsLogic : (h.toList == [115, 101, 116, 45, 108, 111, 103, 105, 99]) = false := tl_false esLogic
    by_cases esOption : h = sOption
    · have qsOption : (h.toList == [115, 101, 116, 45, 111, 112, 116, 105, 111, 110]) = true := tl_true esOption
      have HF2 := Lib.hid (show po = optionO xs.tail by rw [HF.out]; unfold formB; rw [if_neg esLogic, if_pos esOption])
      clear esLogic esOption
      clear HF
      have HF := HF2
      have HOp := Lib.hid (roption_any HX.out W2.out HLc.out.1)
      go_wp2_with fail
      refine HOp.out.mono ?_
      rintro e w5 ⟨k, s, n, A1, n1, c1, A2, n2, c2, A3, n3, c3, r, A4, n4, c4, rfl, hcr, hb5⟩
      have RB5 := Lib.hid ((hb5.block _ (lt_of_block RB2.out)).trans RB2.out)
      have B5 := Lib.hid (B2.out.trans (hb5.mono B2.out.size))
      have HCr := Lib.hid hcr
      have HLw := Lib.hid (lt_of_block RB2.out)
      clear hcr hb5
      obtain ⟨z0, z1, z2, z3, z4, z5, z6, z7, zf⟩ := eight_cells RB5.out
      go_wp2_with fail
      refine rcmd_ret (w := set8 w5 (w.heap.size + 1) _ _ _ _ _ _ _ _) (eight_set RB5.out _ _ _ _ _ _ _ _) rfl rfl rfl rfl (opt_any (by rw [HF.out]) (set8_keeps (S := fun _ => False) (Keeps.of_below B5.out _) (.inr (by omega)) _ _ _ _ _ _ _ _).none_below _ _ _ _ _ _ _ _ _ _ _ _ _ _ _ _ (fun cc hcc W' hW => ?_))
      exact HCr.out cc (by rw [← HF.out]; exact hcc) W' ((set8_keeps (Keeps.refl _ w5) (b := w.heap.size + 1) (.inl ⟨by have := HB.out.size; omega, HLw.out⟩) _ _ _ _ _ _ _ _).trans_same (hW.mono (fun j hj => ⟨hj.1, by have := HLw.out; have := hj.2; omega⟩)))
    have qsOption : (h.toList == [115, 101, 116, 45, 111, 112, 116, 105, 111, 110]) = false := tl_false esOption
    by_cases esSort : h = sSort
    · have qsSort : (h.toList == [100, 101, 99, 108, 97, 114, 101, 45, 115, 111, 114, 116]) = true := tl_true esSort
      have HF2 := Lib.hid (show po = declO h xs.tail by unfold declO; rw [if_pos esSort, HF.out]; unfold formB; rw [if_neg esLogic, if_neg esOption, if_pos esSort])
      clear esLogic esOption esSort
      clear HF
      have HF := HF2
      have HOp := Lib.hid (rdeclares_any HX.out W2.out HLc.out.1 HLc.out.2.1 HLc.out.2.2 h)
      go_wp2_with fail
      refine HOp.out.mono ?_
      rintro e w5 ⟨k, s, n, A1, n1, c1, A2, n2, c2, A3, n3, c3, r, A4, n4, c4, rfl, hcr, hb5⟩
      have RB5 := Lib.hid ((hb5.block _ (lt_of_block RB2.out)).trans RB2.out)
      have B5 := Lib.hid (B2.out.trans (hb5.mono B2.out.size))
      have HCr := Lib.hid hcr
      have HLw := Lib.hid (lt_of_block RB2.out)
      clear hcr hb5
      obtain ⟨z0, z1, z2, z3, z4, z5, z6, z7, zf⟩ := eight_cells RB5.out
      go_wp2_with fail
      refine rcmd_ret (w := set8 w5 (w.heap.size + 1) _ _ _ _ _ _ _ _) (eight_set RB5.out _ _ _ _ _ _ _ _) rfl rfl rfl rfl (opt_any (by rw [HF.out]) (set8_keeps (S := fun _ => False) (Keeps.of_below B5.out _) (.inr (by omega)) _ _ _ _ _ _ _ _).none_below _ _ _ _ _ _ _ _ _ _ _ _ _ _ _ _ (fun cc hcc W' hW => ?_))
      exact HCr.out cc (by rw [← HF.out]; exact hcc) W' ((set8_keeps (Keeps.refl _ w5) (b := w.heap.size + 1) (.inl ⟨by have := HB.out.size; omega, HLw.out⟩) _ _ _ _ _ _ _ _).trans_same (hW.mono (fun j hj => ⟨hj.1, by have := HLw.out; have := hj.2; omega⟩)))
    have qsSort : (h.toList == [100, 101, 99, 108, 97, 114, 101, 45, 115, 111, 114, 116]) = false := tl_false esSort
    by_cases esFun : h = sFun
    · have qsFun : (h.toList == [100, 101, 99, 108, 97, 114, 101, 45, 102, 117, 110]) = true := tl_true esFun
      have HF2 := Lib.hid (show po = declO h xs.tail by unfold declO; rw [if_neg esSort, if_pos esFun, HF.out]; unfold formB; rw [if_neg esLogic, if_neg esOption, if_neg esSort, if_pos esFun])
      clear esLogic esOption esSort esFun
      clear HF
      have HF := HF2
      have HOp := Lib.hid (rdeclares_any HX.out W2.out HLc.out.1 HLc.out.2.1 HLc.out.2.2 h)
      go_wp2_with fail
      refine HOp.out.mono ?_
      rintro e w5 ⟨k, s, n, A1, n1, c1, A2, n2, c2, A3, n3, c3, r, A4, n4, c4, rfl, hcr, hb5⟩
      have RB5 := Lib.hid ((hb5.block _ (lt_of_block RB2.out)).trans RB2.out)
      have B5 := Lib.hid (B2.out.trans (hb5.mono B2.out.size))
      have HCr := Lib.hid hcr
      have HLw := Lib.hid (lt_of_block RB2.out)
      clear hcr hb5
      obtain ⟨z0, z1, z2, z3, z4, z5, z6, z7, zf⟩ := eight_cells RB5.out
      go_wp2_with fail
      refine rcmd_ret (w := set8 w5 (w.heap.size + 1) _ _ _ _ _ _ _ _) (eight_set RB5.out _ _ _ _ _ _ _ _) rfl rfl rfl rfl (opt_any (by rw [HF.out]) (set8_keeps (S := fun _ => False) (Keeps.of_below B5.out _) (.inr (by omega)) _ _ _ _ _ _ _ _).none_below _ _ _ _ _ _ _ _ _ _ _ _ _ _ _ _ (fun cc hcc W' hW => ?_))
      exact HCr.out cc (by rw [← HF.out]; exact hcc) W' ((set8_keeps (Keeps.refl _ w5) (b := w.heap.size + 1) (.inl ⟨by have := HB.out.size; omega, HLw.out⟩) _ _ _ _ _ _ _ _).trans_same (hW.mono (fun j hj => ⟨hj.1, by have := HLw.out; have := hj.2; omega⟩)))
    have qsFun : (h.toList == [100, 101, 99, 108, 97, 114, 101, 45, 102, 117, 110]) = false := tl_false esFun
    by_cases esDefine : h = sDefine
    · have qsDefine : (h.toList == [100, 101, 102, 105, 110, 101, 45, 102, 117, 110]) = true := tl_true esDefine
      have HF2 := Lib.hid (show po = declO h xs.tail by unfold declO; rw [if_neg esSort, if_neg esFun, HF.out]; unfold formB; rw [if_neg esLogic, if_neg esOption, if_neg esSort, if_neg esFun, if_pos esDefine])
      clear esLogic esOption esSort esFun esDefine
      clear HF
      have HF := HF2
      have HOp := Lib.hid (rdeclares_any HX.out W2.out HLc.out.1 HLc.out.2.1 HLc.out.2.2 h)
      go_wp2_with fail
      refine HOp.out.mono ?_
      rintro e w5 ⟨k, s, n, A1, n1, c1, A2, n2, c2, A3, n3, c3, r, A4, n4, c4, rfl, hcr, hb5⟩
      have RB5 := Lib.hid ((hb5.block _ (lt_of_block RB2.out)).trans RB2.out)
      have B5 := Lib.hid (B2.out.trans (hb5.mono B2.out.size))
      have HCr := Lib.hid hcr
      have HLw := Lib.hid (lt_of_block RB2.out)
      clear hcr hb5
      obtain ⟨z0, z1, z2, z3, z4, z5, z6, z7, zf⟩ := eight_cells RB5.out
      go_wp2_with fail
      refine rcmd_ret (w := set8 w5 (w.heap.size + 1) _ _ _ _ _ _ _ _) (eight_set RB5.out _ _ _ _ _ _ _ _) rfl rfl rfl rfl (opt_any (by rw [HF.out]) (set8_keeps (S := fun _ => False) (Keeps.of_below B5.out _) (.inr (by omega)) _ _ _ _ _ _ _ _).none_below _ _ _ _ _ _ _ _ _ _ _ _ _ _ _ _ (fun cc hcc W' hW => ?_))
      exact HCr.out cc (by rw [← HF.out]; exact hcc) W' ((set8_keeps (Keeps.refl _ w5) (b := w.heap.size + 1) (.inl ⟨by have := HB.out.size; omega, HLw.out⟩) _ _ _ _ _ _ _ _).trans_same (hW.mono (fun j hj => ⟨hj.1, by have := HLw.out; have := hj.2; omega⟩)))
    have qsDefine : (h.toList == [100, 101, 102, 105, 110, 101, 45, 102, 117, 110]) = false := tl_false esDefine
    by_cases esAssert : h = sAssert
    · have qsAssert : (h.toList == [97, 115, 115, 101, 114, 116]) = true := tl_true esAssert
      have HF2 := Lib.hid (show po = oneO xs.tail (fun x => some { noCmd with kind := 5, terms := [x] }) by rw [HF.out]; unfold formB; rw [if_neg esLogic, if_neg esOption, if_neg esSort, if_neg esFun, if_neg esDefine, if_pos esAssert])
      clear esLogic esOption esSort esFun esDefine esAssert
      by_cases h2 : xs.length = 2
      rotate_left
      · have h2' : ((xs.length : Int) != 2) = true := by simp; omega
        have HO := Lib.hid (show po = none by rw [HF2.out]; exact oneO_len h2)
        clear h2
        obtain ⟨z0, z1, z2, z3, z4, z5, z6, z7, zf⟩ := eight_cells RB2.out
        go_wp2_with fail
        exact rcmd_ret (w := set8 w3 (w.heap.size + 1) _ _ _ _ _ _ _ _) (eight_set RB2.out _ _ _ _ _ _ _ _) rfl rfl rfl rfl (opt_none HO.out (set8_keeps (S := fun _ => False) (Keeps.of_below B2.out _) (.inr (by omega)) _ _ _ _ _ _ _ _).none_below _ _ _ _ _ _ _ _ _ _ _ _ _ _ _ _)
      have h2' : ((xs.length : Int) != 2) = false := by simp; omega
      have l1 : (1 : Int) < (xs.length : Int) := by omega
      have hz := List.getElem?_eq_getElem (l := xs) (i := 1) (by omega)
      generalize xs[1] = z at hz
      obtain ⟨b', o', A3, c3, hA, hc3, hr3⟩ := part_cells HX.out hz
      simp only [Option.some.injEq, Addr.mk.injEq, and_true] at hA
      obtain ⟨rfl, rfl⟩ := hA
      simp only [Nat.reduceMul, Nat.add_assoc, Nat.reduceAdd] at hc3
      have HzT := Lib.hid (show (z.text.size : Int) ≤ 140737488351232 by obtain ⟨_, _, _, _, _, _, h1, _⟩ := hr3.open'; exact h1)
      have Hz := Lib.hid (tail_two hz h2)
      have C3 := Lib.hid hc3
      have H2 := Lib.hid h2
      have R3 := Lib.hid hr3
      clear hz hc3 hr3
      obtain ⟨u0, u1, u2⟩ := C3.out w3 W2.out
      have HO := Lib.hid (show po = some { noCmd with kind := 5, terms := [z] } by rw [HF2.out, Hz.out]; rfl)
      have HLd := Lib.hid (lies_drop HX.out 1)
      have hc1 : (1 : Int) ≤ (c : Int) := by have := HLc.out.1; have := HLp.out; omega
      have hc2 : (xs.length : Int) ≤ (c : Int) := by have := HLc.out.1; omega
      have hc6 : 1 ≤ xs.length := HLp.out
      obtain ⟨z0, z1, z2, z3, z4, z5, z6, z7, zf⟩ := eight_cells RB2.out
      go_wp2_with fail
      refine rcmd_ret (w := set8 w3 (w.heap.size + 1) _ _ _ _ _ _ _ _) (eight_set RB2.out _ _ _ _ _ _ _ _) rfl rfl rfl rfl (opt_some HO.out (set8_keeps (S := fun _ => False) (Keeps.of_below B2.out _) (.inr (by omega)) _ _ _ _ _ _ _ _).none_below _ _ _ _ _ _ _ _ _ _ _ _ _ _ _ _ (fun W' hW => ?_))
      have hT9 := HLd.out.on SexpR.lasts (stay_below (HB.out.trans ((set8_keeps (S := fun _ => False) (Keeps.of_below B2.out _) (b := w.heap.size + 1) (.inr (by omega)) _ _ _ _ _ _ _ _).none_below.mono HB.out.size)) hW)
      rw [show xs.drop 1 = [z] by rw [← Hz.out]; simp] at hT9
      exact ⟨none, 0, none, 0, none, 0, some ⟨b, o + 3, none⟩, c - 1, rfl, ⟨.inl rfl, .inl rfl, .inl rfl, hT9, Nat.le_refl _, Nat.le_refl _, Nat.le_refl _, by show 1 ≤ c - 1; have := HLc.out.1; omega, Nat.zero_le _, Nat.zero_le _, Nat.zero_le _, by have := HLc.out.2.1; omega, by show 1 * 48 ≤ _; decide, (show (Lit.int .i8 5).wf = true by decide), (show I64 0 from ⟨by decide, by decide⟩), (show ((noS.size : Nat) : Int) ≤ 140737488351232 by decide), (show ((noS.size : Nat) : Int) ≤ 140737488351232 by decide)⟩⟩
    have qsAssert : (h.toList == [97, 115, 115, 101, 114, 116]) = false := tl_false esAssert
    by_cases esPush : h = sPush
    · have qsPush : (h.toList == [112, 117, 115, 104]) = true := tl_true esPush
      have HF2 := Lib.hid (show po = oneO xs.tail (fun x => (smallN x 8).map fun n => { noCmd with kind := 6, n := n }) by rw [HF.out]; unfold formB; rw [if_neg esLogic, if_neg esOption, if_neg esSort, if_neg esFun, if_neg esDefine, if_neg esAssert, if_pos esPush])
      clear esLogic esOption esSort esFun esDefine esAssert esPush
      by_cases h2 : xs.length = 2
      rotate_left
      · have h2' : ((xs.length : Int) != 2) = true := by simp; omega
        have HO := Lib.hid (show po = none by rw [HF2.out]; exact oneO_len h2)
        clear h2
        obtain ⟨z0, z1, z2, z3, z4, z5, z6, z7, zf⟩ := eight_cells RB2.out
        go_wp2_with fail
        exact rcmd_ret (w := set8 w3 (w.heap.size + 1) _ _ _ _ _ _ _ _) (eight_set RB2.out _ _ _ _ _ _ _ _) rfl rfl rfl rfl (opt_none HO.out (set8_keeps (S := fun _ => False) (Keeps.of_below B2.out _) (.inr (by omega)) _ _ _ _ _ _ _ _).none_below _ _ _ _ _ _ _ _ _ _ _ _ _ _ _ _)
      have h2' : ((xs.length : Int) != 2) = false := by simp; omega
      have l1 : (1 : Int) < (xs.length : Int) := by omega
      have hz := List.getElem?_eq_getElem (l := xs) (i := 1) (by omega)
      generalize xs[1] = z at hz
      obtain ⟨b', o', A3, c3, hA, hc3, hr3⟩ := part_cells HX.out hz
      simp only [Option.some.injEq, Addr.mk.injEq, and_true] at hA
      obtain ⟨rfl, rfl⟩ := hA
      simp only [Nat.reduceMul, Nat.add_assoc, Nat.reduceAdd] at hc3
      have HzT := Lib.hid (show (z.text.size : Int) ≤ 140737488351232 by obtain ⟨_, _, _, _, _, _, h1, _⟩ := hr3.open'; exact h1)
      have Hz := Lib.hid (tail_two hz h2)
      have C3 := Lib.hid hc3
      have H2 := Lib.hid h2
      have R3 := Lib.hid hr3
      clear hz hc3 hr3
      obtain ⟨u0, u1, u2⟩ := C3.out w3 W2.out
      have HSm := Lib.hid (rsmall_any (w := w3) z A3 c3 HzT.out 8)
      unfold agS at HSm
      have HF3 := Lib.hid (show po = (smallN z 8).map fun n => { noCmd with kind := 6, n := n } by rw [HF2.out, Hz.out]; rfl)
      clear h2
      go_wp2_with fail
      refine HSm.out.mono ?_
      rintro e w4 ⟨⟨v, hv, rfl, hve⟩, hb4⟩
      have RB4 := Lib.hid ((hb4.block _ (lt_of_block RB2.out)).trans RB2.out)
      have B4 := Lib.hid (B2.out.trans (hb4.mono B2.out.size))
      have HV := Lib.hid hv
      have HVe := Lib.hid hve
      clear hb4 u0 u1 u2 x0 x1 x2 RB2 B2 HSm hv hve
      obtain ⟨x0, x1, x2⟩ := C1.out w4 (HB.out.trans (B4.out.mono HB.out.size))
      obtain ⟨z0, z1, z2, z3, z4, z5, z6, z7, zf⟩ := eight_cells RB4.out
      go_wp2_with fail
      refine rcmd_ret (w := set8 w4 (w.heap.size + 1) _ _ _ _ _ _ _ _) (eight_set RB4.out _ _ _ _ _ _ _ _) rfl rfl rfl rfl (opt_any (by rw [HF3.out]; cases smallN z 8 <;> rfl) (set8_keeps (S := fun _ => False) (Keeps.of_below B4.out _) (.inr (by omega)) _ _ _ _ _ _ _ _).none_below _ _ _ _ _ _ _ _ _ _ _ _ _ _ _ _ (fun cc hcc W' _ => ?_))
      rw [HF3.out] at hcc
      cases hn : smallN z 8 with
      | none => rw [hn] at hcc; cases hcc
      | some n =>
        rw [hn] at hcc
        obtain rfl := Option.some.inj hcc
        rw [HVe.out n hn]
        exact cmdR_zero W' { noCmd with kind := 6, n := n } rfl rfl rfl rfl (show (Lit.int .i8 6).wf = true by decide) (show I64 n by rw [← HVe.out n hn]; exact HV.out) (show ((noS.size : Nat) : Int) ≤ 140737488351232 by decide) (show ((noS.size : Nat) : Int) ≤ 140737488351232 by decide)
    have qsPush : (h.toList == [112, 117, 115, 104]) = false := tl_false esPush
    by_cases esPop : h = sPop
    · have qsPop : (h.toList == [112, 111, 112]) = true := tl_true esPop
      have HF2 := Lib.hid (show po = oneO xs.tail (fun x => (smallN x 8).map fun n => { noCmd with kind := 7, n := n }) by rw [HF.out]; unfold formB; rw [if_neg esLogic, if_neg esOption, if_neg esSort, if_neg esFun, if_neg esDefine, if_neg esAssert, if_neg esPush, if_pos esPop])
      clear esLogic esOption esSort esFun esDefine esAssert esPush esPop
      by_cases h2 : xs.length = 2
      rotate_left
      · have h2' : ((xs.length : Int) != 2) = true := by simp; omega
        have HO := Lib.hid (show po = none by rw [HF2.out]; exact oneO_len h2)
        clear h2
        obtain ⟨z0, z1, z2, z3, z4, z5, z6, z7, zf⟩ := eight_cells RB2.out
        go_wp2_with fail
        exact rcmd_ret (w := set8 w3 (w.heap.size + 1) _ _ _ _ _ _ _ _) (eight_set RB2.out _ _ _ _ _ _ _ _) rfl rfl rfl rfl (opt_none HO.out (set8_keeps (S := fun _ => False) (Keeps.of_below B2.out _) (.inr (by omega)) _ _ _ _ _ _ _ _).none_below _ _ _ _ _ _ _ _ _ _ _ _ _ _ _ _)
      have h2' : ((xs.length : Int) != 2) = false := by simp; omega
      have l1 : (1 : Int) < (xs.length : Int) := by omega
      have hz := List.getElem?_eq_getElem (l := xs) (i := 1) (by omega)
      generalize xs[1] = z at hz
      obtain ⟨b', o', A3, c3, hA, hc3, hr3⟩ := part_cells HX.out hz
      simp only [Option.some.injEq, Addr.mk.injEq, and_true] at hA
      obtain ⟨rfl, rfl⟩ := hA
      simp only [Nat.reduceMul, Nat.add_assoc, Nat.reduceAdd] at hc3
      have HzT := Lib.hid (show (z.text.size : Int) ≤ 140737488351232 by obtain ⟨_, _, _, _, _, _, h1, _⟩ := hr3.open'; exact h1)
      have Hz := Lib.hid (tail_two hz h2)
      have C3 := Lib.hid hc3
      have H2 := Lib.hid h2
      have R3 := Lib.hid hr3
      clear hz hc3 hr3
      obtain ⟨u0, u1, u2⟩ := C3.out w3 W2.out
      have HSm := Lib.hid (rsmall_any (w := w3) z A3 c3 HzT.out 8)
      unfold agS at HSm
      have HF3 := Lib.hid (show po = (smallN z 8).map fun n => { noCmd with kind := 7, n := n } by rw [HF2.out, Hz.out]; rfl)
      clear h2
      go_wp2_with fail
      refine HSm.out.mono ?_
      rintro e w4 ⟨⟨v, hv, rfl, hve⟩, hb4⟩
      have RB4 := Lib.hid ((hb4.block _ (lt_of_block RB2.out)).trans RB2.out)
      have B4 := Lib.hid (B2.out.trans (hb4.mono B2.out.size))
      have HV := Lib.hid hv
      have HVe := Lib.hid hve
      clear hb4 u0 u1 u2 x0 x1 x2 RB2 B2 HSm hv hve
      obtain ⟨x0, x1, x2⟩ := C1.out w4 (HB.out.trans (B4.out.mono HB.out.size))
      obtain ⟨z0, z1, z2, z3, z4, z5, z6, z7, zf⟩ := eight_cells RB4.out
      go_wp2_with fail
      refine rcmd_ret (w := set8 w4 (w.heap.size + 1) _ _ _ _ _ _ _ _) (eight_set RB4.out _ _ _ _ _ _ _ _) rfl rfl rfl rfl (opt_any (by rw [HF3.out]; cases smallN z 8 <;> rfl) (set8_keeps (S := fun _ => False) (Keeps.of_below B4.out _) (.inr (by omega)) _ _ _ _ _ _ _ _).none_below _ _ _ _ _ _ _ _ _ _ _ _ _ _ _ _ (fun cc hcc W' _ => ?_))
      rw [HF3.out] at hcc
      cases hn : smallN z 8 with
      | none => rw [hn] at hcc; cases hcc
      | some n =>
        rw [hn] at hcc
        obtain rfl := Option.some.inj hcc
        rw [HVe.out n hn]
        exact cmdR_zero W' { noCmd with kind := 7, n := n } rfl rfl rfl rfl (show (Lit.int .i8 7).wf = true by decide) (show I64 n by rw [← HVe.out n hn]; exact HV.out) (show ((noS.size : Nat) : Int) ≤ 140737488351232 by decide) (show ((noS.size : Nat) : Int) ≤ 140737488351232 by decide)
    have qsPop : (h.toList == [112, 111, 112]) = false := tl_false esPop
    by_cases esValue : h = sValue
    · have qsValue : (h.toList == [103, 101, 116, 45, 118, 97, 108, 117, 101]) = true := tl_true esValue
      have HF2 := Lib.hid (show po = valueO xs.tail by rw [HF.out]; unfold formB; rw [if_neg esLogic, if_neg esOption, if_neg esSort, if_neg esFun, if_neg esDefine, if_neg esAssert, if_neg esPush, if_neg esPop, if_pos esValue])
      clear esLogic esOption esSort esFun esDefine esAssert esPush esPop esValue
      by_cases h2 : xs.length = 2
      rotate_left
      · have h2' : ((xs.length : Int) != 2) = true := by simp; omega
        have HO := Lib.hid (show po = none by rw [HF2.out]; exact valueO_len h2)
        clear h2
        obtain ⟨z0, z1, z2, z3, z4, z5, z6, z7, zf⟩ := eight_cells RB2.out
        go_wp2_with fail
        exact rcmd_ret (w := set8 w3 (w.heap.size + 1) _ _ _ _ _ _ _ _) (eight_set RB2.out _ _ _ _ _ _ _ _) rfl rfl rfl rfl (opt_none HO.out (set8_keeps (S := fun _ => False) (Keeps.of_below B2.out _) (.inr (by omega)) _ _ _ _ _ _ _ _).none_below _ _ _ _ _ _ _ _ _ _ _ _ _ _ _ _)
      have h2' : ((xs.length : Int) != 2) = false := by simp; omega
      have l1 : (1 : Int) < (xs.length : Int) := by omega
      have hz := List.getElem?_eq_getElem (l := xs) (i := 1) (by omega)
      generalize xs[1] = z at hz
      obtain ⟨b', o', A3, c3, hA, hc3, hr3⟩ := part_cells HX.out hz
      simp only [Option.some.injEq, Addr.mk.injEq, and_true] at hA
      obtain ⟨rfl, rfl⟩ := hA
      simp only [Nat.reduceMul, Nat.add_assoc, Nat.reduceAdd] at hc3
      have HzT := Lib.hid (show (z.text.size : Int) ≤ 140737488351232 by obtain ⟨_, _, _, _, _, _, h1, _⟩ := hr3.open'; exact h1)
      have Hz := Lib.hid (tail_two hz h2)
      have C3 := Lib.hid hc3
      have H2 := Lib.hid h2
      have R3 := Lib.hid hr3
      clear hz hc3 hr3
      obtain ⟨u0, u1, u2⟩ := C3.out w3 W2.out
      have HF3 := Lib.hid (show po = if z.kind = 3 then (if 1 ≤ z.l.length ∧ z.l.length ≤ 16 then some { noCmd with kind := 10, terms := z.l } else none) else none by rw [HF2.out, Hz.out, valueO_one])
      clear h2
      by_cases hz3 : z.kind = 3
      rotate_left
      · have hz3' : (z.kind != 3) = true := by rw [bne, beq_eq_false_iff_ne.2 hz3]; rfl
        have HO := Lib.hid (show po = none from HF3.out.trans (if_neg hz3))
        clear hz3
        obtain ⟨z0, z1, z2, z3, z4, z5, z6, z7, zf⟩ := eight_cells RB2.out
        go_wp2_with fail
        exact rcmd_ret (w := set8 w3 (w.heap.size + 1) _ _ _ _ _ _ _ _) (eight_set RB2.out _ _ _ _ _ _ _ _) rfl rfl rfl rfl (opt_none HO.out (set8_keeps (S := fun _ => False) (Keeps.of_below B2.out _) (.inr (by omega)) _ _ _ _ _ _ _ _).none_below _ _ _ _ _ _ _ _ _ _ _ _ _ _ _ _)
      have hz3' : (z.kind != 3) = false := by rw [hz3]; rfl
      have HF4 := Lib.hid (HF3.out.trans (if_pos hz3))
      clear hz3
      by_cases hm1 : z.l.length < 1
      · have hm1' : decide ((z.l.length : Int) < 1) = true := decide_eq_true (by omega)
        have hm0 : z.l = [] := List.length_eq_zero_iff.1 (by omega)
        have HO := Lib.hid (show po = none from HF4.out.trans (if_neg (by omega)))
        clear hm1
        rw [hm0] at u2
        obtain ⟨z0, z1, z2, z3, z4, z5, z6, z7, zf⟩ := eight_cells RB2.out
        go_wp2_with fail
        exact rcmd_ret (w := set8 w3 (w.heap.size + 1) _ _ _ _ _ _ _ _) (eight_set RB2.out _ _ _ _ _ _ _ _) rfl rfl rfl rfl (opt_none HO.out (set8_keeps (S := fun _ => False) (Keeps.of_below B2.out _) (.inr (by omega)) _ _ _ _ _ _ _ _).none_below _ _ _ _ _ _ _ _ _ _ _ _ _ _ _ _)
      have hm1' : decide ((z.l.length : Int) < 1) = false := decide_eq_false (by omega)
      have hm2 : z.l ≠ [] := fun e => hm1 (by rw [e]; decide)
      by_cases hm16 : z.l.length ≤ 16
      rotate_left
      · have hm16' : decide ((16 : Int) < (z.l.length : Int)) = true := decide_eq_true (by omega)
        have HO := Lib.hid (show po = none from HF4.out.trans (if_neg (by omega)))
        clear hm1 hm16
        obtain ⟨z0, z1, z2, z3, z4, z5, z6, z7, zf⟩ := eight_cells RB2.out
        go_wp2_with fail
        exact rcmd_ret (w := set8 w3 (w.heap.size + 1) _ _ _ _ _ _ _ _) (eight_set RB2.out _ _ _ _ _ _ _ _) rfl rfl rfl rfl (opt_none HO.out (set8_keeps (S := fun _ => False) (Keeps.of_below B2.out _) (.inr (by omega)) _ _ _ _ _ _ _ _).none_below _ _ _ _ _ _ _ _ _ _ _ _ _ _ _ _)
      have hm16' : decide ((16 : Int) < (z.l.length : Int)) = false := decide_eq_false (by omega)
      have HO := Lib.hid (show po = some { noCmd with kind := 10, terms := z.l } from HF4.out.trans (if_pos ⟨by omega, hm16⟩))
      obtain ⟨_, _, e5, hl5, hl5c, hl5m, _, hl5b, _⟩ := R3.out.open'
      simp only [List.cons.injEq, Value.slice.injEq, and_true, true_and] at e5
      obtain ⟨rfl, rfl⟩ := e5
      have HL5 := Lib.hid (And.intro hl5 (And.intro hl5c (And.intro hl5m hl5b)))
      clear hm1 hm16 hl5 hl5c hl5m hl5b
      obtain ⟨z0, z1, z2, z3, z4, z5, z6, z7, zf⟩ := eight_cells RB2.out
      go_wp2_with fail
      refine rcmd_ret (w := set8 w3 (w.heap.size + 1) _ _ _ _ _ _ _ _) (eight_set RB2.out _ _ _ _ _ _ _ _) rfl rfl rfl rfl (opt_some HO.out (set8_keeps (S := fun _ => False) (Keeps.of_below B2.out _) (.inr (by omega)) _ _ _ _ _ _ _ _).none_below _ _ _ _ _ _ _ _ _ _ _ _ _ _ _ _ (fun W' hW => ?_))
      have hT9 := HL5.out.1.on SexpR.lasts (stay_below (HB.out.trans ((set8_keeps (S := fun _ => False) (Keeps.of_below B2.out _) (b := w.heap.size + 1) (.inr (by omega)) _ _ _ _ _ _ _ _).none_below.mono HB.out.size)) hW)
      exact ⟨none, 0, none, 0, none, 0, A3, c3, rfl, ⟨.inl rfl, .inl rfl, .inl rfl, hT9, Nat.le_refl _, Nat.le_refl _, Nat.le_refl _, HL5.out.2.1, Nat.zero_le _, Nat.zero_le _, Nat.zero_le _, HL5.out.2.2.1, HL5.out.2.2.2, (show (Lit.int .i8 10).wf = true by decide), (show I64 0 from ⟨by decide, by decide⟩), (show ((noS.size : Nat) : Int) ≤ 140737488351232 by decide), (show ((noS.size : Nat) : Int) ≤ 140737488351232 by decide)⟩⟩
    have qsValue : (h.toList == [103, 101, 116, 45, 118, 97, 108, 117, 101]) = false := tl_false esValue
    have HO := Lib.hid (show po = none by rw [HF.out]; unfold formB; rw [if_neg esLogic, if_neg esOption, if_neg esSort, if_neg esFun, if_neg esDefine, if_neg esAssert, if_neg esPush, if_neg esPop, if_neg esValue])
    clear esLogic esOption esSort esFun esDefine esAssert esPush esPop esValue
    obtain ⟨z0, z1, z2, z3, z4, z5, z6, z7, zf⟩ := eight_cells RB2.out
    go_wp2_with fail
    exact rcmd_ret (w := set8 w3 (w.heap.size + 1) _ _ _ _ _ _ _ _) (eight_set RB2.out _ _ _ _ _ _ _ _) rfl rfl rfl rfl (opt_none HO.out (set8_keeps (S := fun _ => False) (Keeps.of_below B2.out _) (.inr (by omega)) _ _ _ _ _ _ _ _).none_below _ _ _ _ _ _ _ _ _ _ _ _ _ _ _ _)
end Go.Proofs.YtbchcipjpcdhfaaGreatDoor.Cm
