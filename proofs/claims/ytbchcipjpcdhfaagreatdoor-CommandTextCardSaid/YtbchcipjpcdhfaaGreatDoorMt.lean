import Derived.Test.YtbchcipjpcdhfaaGreatDoorMs
/- merged by wip/merge.py from: R8Declares -/
/- The document's reading of commands: declare-sort, declare-fun, define-fun. -/
namespace Go.Proofs.YtbchcipjpcdhfaaGreatDoor.Cm
open Go.RowKit Go.Proofs.YtbchcipjpcdhfaaGreatDoor.Dt

def declO (h : ByteArray) (r : List Sexp) : Option Cmd := if h = sSort then sortO r else if h = sFun then funO r else defineO r
theorem three_from {xs : List Sexp} {s x : Sexp} (hs : xs[1]? = some s) (hx : xs[2]? = some x) : ∃ y r, xs = y :: s :: x :: r := by
  match xs, hs, hx with
  | y :: s' :: x' :: r, hs, hx =>
    simp at hs hx
    subst hs hx
    exact ⟨y, r, rfl⟩
theorem declO_short (h : ByteArray) {xs : List Sexp} (hl : xs.length < 3) : declO h xs.tail = none := by
  match xs, hl with
  | [], _ => unfold declO; (repeat' split) <;> rfl
  | [_], _ => unfold declO; (repeat' split) <;> rfl
  | [_, _], _ => unfold declO; (repeat' split) <;> rfl
theorem symN_no {s : Sexp} (h : s.kind ≠ 0) : symN s = none := by unfold symN; rw [if_neg h]
theorem symN_yes {s : Sexp} (h : s.kind = 0) : symN s = some s.text := by unfold symN; rw [if_pos h]
theorem sort_eq {xs : List Sexp} {s x : Sexp} (hs : xs[1]? = some s) (hx : xs[2]? = some x) : sortO xs.tail = if xs.length = 3 then (symN s).bind fun t => (smallN x 0).map fun _ => { noCmd with kind := 2, name := t } else none := by
  obtain ⟨y, r, rfl⟩ := three_from hs hx
  cases r with
  | nil => rfl
  | cons a r => rw [if_neg (by simp)]; rfl
theorem fun_eq {xs : List Sexp} {s x t : Sexp} (hs : xs[1]? = some s) (hx : xs[2]? = some x) (ht : xs[3]? = some t) : funO xs.tail = if xs.length = 4 then (symN s).bind fun a => (namesN x).bind fun l => if l.length ≤ 3 then (symN t).map fun b => { noCmd with kind := 3, name := a, args := l, res := b } else none else none := by
  obtain ⟨y, r, rfl⟩ := three_from hs hx
  match r, ht with
  | [t'], ht => simp at ht; subst ht; rfl
  | t' :: u :: r, ht => rw [if_neg (by simp)]; rfl
theorem define_eq {xs : List Sexp} {s x t : Sexp} (hs : xs[1]? = some s) (hx : xs[2]? = some x) (ht : xs[3]? = some t) : defineO xs.tail = if xs.length = 5 then (symN s).bind fun a => (paramsN x).bind fun l => if l.length ≤ 3 then (symN t).map fun b => { noCmd with kind := 4, name := a, params := l, res := b, terms := xs.drop 4 } else none else none := by
  obtain ⟨y, r, rfl⟩ := three_from hs hx
  match r, ht with
  | [t'], ht => rw [if_neg (by simp)]; rfl
  | [t', u], ht => simp at ht; subst ht; rfl
  | t' :: u :: v :: r, ht => rw [if_neg (by simp)]; rfl
theorem fun_short {xs : List Sexp} (hl : xs.length < 4) : funO xs.tail = none := by
  match xs, hl with
  | [], _ => rfl
  | [_], _ => rfl
  | [_, _], _ => rfl
  | [_, _, _], _ => rfl
theorem define_short {xs : List Sexp} (hl : xs.length < 4) : defineO xs.tail = none := by
  match xs, hl with
  | [], _ => rfl
  | [_], _ => rfl
  | [_, _], _ => rfl
  | [_, _, _], _ => rfl
theorem declO_nosym (h : ByteArray) {xs : List Sexp} {s x : Sexp} (hs : xs[1]? = some s) (hx : xs[2]? = some x) (h0 : s.kind ≠ 0) : declO h xs.tail = none := by
  unfold declO
  split
  · rw [sort_eq hs hx, symN_no h0]; split <;> rfl
  · by_cases hl : xs.length < 4
    · rw [fun_short hl, define_short hl]; split <;> rfl
    · have ht := List.getElem?_eq_getElem (l := xs) (i := 3) (by omega)
      rw [fun_eq hs hx ht, define_eq hs hx ht, symN_no h0]
      split <;> (split <;> rfl)
theorem namesN_len {x : Sexp} {l : List ByteArray} (h : namesN x = some l) : l.length = x.l.length := by
  unfold namesN listN at h
  split at h
  · exact eachO_len h
  · cases h
theorem paramsN_len {x : Sexp} {l : List (ByteArray × ByteArray)} (h : paramsN x = some l) : l.length = x.l.length := by
  unfold paramsN listN at h
  split at h
  · exact eachO_len h
  · cases h
theorem fun_many {xs : List Sexp} {s x t : Sexp} (hs : xs[1]? = some s) (hx : xs[2]? = some x) (ht : xs[3]? = some t) (hl : 3 < x.l.length ∨ t.kind ≠ 0) : funO xs.tail = none := by
  rw [fun_eq hs hx ht]
  split
  · cases symN s with
    | none => rfl
    | some a =>
      rw [Option.bind_some]
      cases hn : namesN x with
      | none => rfl
      | some l =>
        rw [Option.bind_some]
        split
        · rcases hl with hl | hl
          · have := namesN_len hn; omega
          · rw [symN_no hl]; rfl
        · rfl
  · rfl
theorem define_many {xs : List Sexp} {s x t : Sexp} (hs : xs[1]? = some s) (hx : xs[2]? = some x) (ht : xs[3]? = some t) (hl : 3 < x.l.length ∨ t.kind ≠ 0) : defineO xs.tail = none := by
  rw [define_eq hs hx ht]
  split
  · cases symN s with
    | none => rfl
    | some a =>
      rw [Option.bind_some]
      cases hn : paramsN x with
      | none => rfl
      | some l =>
        rw [Option.bind_some]
        split
        · rcases hl with hl | hl
          · have := paramsN_len hn; omega
          · rw [symN_no hl]; rfl
        · rfl
  · rfl
theorem setCell_lit {w : World} {g : Nat} {cs cs' : Array Value} {e : TypeId} {fr : Nat × Nat} (h : w.heap[g]? = some (.cells cs e fr)) (i : Nat) (v : Value) (hc : cs.setIfInBounds i v = cs') : (w.setCell ⟨g, i, none⟩ v).heap[g]? = some (.cells cs' e fr) := by
  rw [← hc]; exact setCell_at h i v
theorem lies_drop {α : Type} {n : Nat} {R : World → List Value → α → Prop} {w : World} {b o : Nat} {xs : List α} (h : Lies n R w (some ⟨b, o, none⟩) xs) (k : Nat) : Lies n R w (some ⟨b, o + k * n, none⟩) (xs.drop k) := by
  rcases h with h | ⟨b', o', hA, hb, hr⟩
  · exact .inl (by rw [h]; simp)
  · simp only [Option.some.injEq, Addr.mk.injEq, and_true] at hA
    obtain ⟨rfl, rfl⟩ := hA
    refine .inr ⟨b, o + k * n, rfl, hb, fun i x hx => ?_⟩
    rw [List.getElem?_drop] at hx
    obtain ⟨vs, h1, h2, h3⟩ := hr (k + i) x hx
    exact ⟨vs, h1, fun j u hu => by have := h2 j u hu; rw [Nat.add_mul, ← Nat.add_assoc] at this; exact this, h3⟩
theorem rdecl_ret {w : World} {b : Nat} {vs : Array Value} {act : Act} {t : TypeId} {R : Ending → World → Prop} {E : Bool} (hb : w.heap[b]? = some (.cells vs t (0, 0))) (hv : vs.size = 8) (h2 : act.tmps[4]? = some (.pointer (some ⟨b, 0, none⟩))) (h3 : act.tmps[5]? = some (.bool E)) (hd : act.defers = []) (hR : R (.returned (.tuple #[.agg vs, .bool E])) w) :
    bodyPost Tryz.prog Tryz.f62 R .ret act w := by
  obtain ⟨v0, v1, v2, v3, v4, v5, v6, v7, e⟩ := list8 (l := vs.toList) (by simpa using hv)
  obtain rfl : vs = #[v0, v1, v2, v3, v4, v5, v6, v7] := Array.toList_inj.1 e
  have y0 := cell_of_cells hb 0
  have y1 := cell_of_cells hb 1
  have y2 := cell_of_cells hb 2
  have y3 := cell_of_cells hb 3
  have y4 := cell_of_cells hb 4
  have y5 := cell_of_cells hb 5
  have y6 := cell_of_cells hb 6
  have y7 := cell_of_cells hb 7
  refine bodyPost_ret (v := .tuple #[.agg #[v0, v1, v2, v3, v4, v5, v6, v7], .bool E]) ?_ hd hR
  simp at y0 y1 y2 y3 y4 y5 y6 y7
  simp [results, Tryz.results62, go_sem, y0, y1, y2, y3, y4, y5, y6, y7, h2, h3]
set_option linter.unusedSimpArgs false in
set_option maxHeartbeats 6400000 in
theorem rdeclares_any {W0 w : World} {A : Option Addr} {c : Nat} {xs : List Sexp} (hx : Lies 3 SexpR W0 A xs) (hb : Below W0.heap.size W0 w) (hc : xs.length ≤ c) (hcm : c ≤ maxLen) (h48 : xs.length * 48 ≤ 140737488351232) (h : ByteArray) :
    Calls Tryz.prog 62 #[.string h, .slice A xs.length c] w (OptRes W0.heap.size w (declO h xs.tail)) := by
  have HX := Lib.hid hx
  have HB := Lib.hid hb
  have HLc := Lib.hid (And.intro hc (And.intro hcm h48))
  clear hx hb hc hcm h48
  go_enter Tryz.func62, Tryz.ntmps62
  go_upto_region 2 with fail
  have RB := Lib.hid (show ((w.alloc (.cells #[.int .i8 0, .string { data := #[] }, .int .i64 0, .slice none 0 0, .slice none 0 0, .slice none 0 0, .string { data := #[] }, .slice none 0 0] 32)).alloc (.cells #[.int .i8 2, .string { data := #[] }, .int .i64 0, .slice none 0 0, .slice none 0 0, .slice none 0 0, .string { data := #[] }, .slice none 0 0] 32)).heap[w.heap.size]? = _ from (Below.heap_alloc _ _ _ (by simp)).trans (blk_new w _))
  have CB := Lib.hid (blk_new2 w (.cells #[.int .i8 0, .string { data := #[] }, .int .i64 0, .slice none 0 0, .slice none 0 0, .slice none 0 0, .string { data := #[] }, .slice none 0 0] 32) (.cells #[.int .i8 2, .string { data := #[] }, .int .i64 0, .slice none 0 0, .slice none 0 0, .slice none 0 0, .string { data := #[] }, .slice none 0 0] 32))
  have B1 := Lib.hid (((Below.refl w.heap.size w).alloc (Nat.le_refl _) (.cells #[.int .i8 0, .string { data := #[] }, .int .i64 0, .slice none 0 0, .slice none 0 0, .slice none 0 0, .string { data := #[] }, .slice none 0 0] 32)).alloc (by simp) (.cells #[.int .i8 2, .string { data := #[] }, .int .i64 0, .slice none 0 0, .slice none 0 0, .slice none 0 0, .string { data := #[] }, .slice none 0 0] 32))
  generalize ((w.alloc (.cells #[.int .i8 0, .string { data := #[] }, .int .i64 0, .slice none 0 0, .slice none 0 0, .slice none 0 0, .string { data := #[] }, .slice none 0 0] 32)).alloc (.cells #[.int .i8 2, .string { data := #[] }, .int .i64 0, .slice none 0 0, .slice none 0 0, .slice none 0 0, .string { data := #[] }, .slice none 0 0] 32)) = w1 at *
  by_cases h3 : xs.length < 3
  · have h3' : decide ((xs.length : Int) < 3) = true := decide_eq_true (by omega)
    have HO := Lib.hid (declO_short h h3)
    clear h3
    obtain ⟨z0, z1, z2, z3, z4, z5, z6, z7, zf⟩ := eight_cells RB.out
    obtain ⟨y0, y1, y2, y3, y4, y5, y6, y7, yf⟩ := eight_cells CB.out
    go_wp2_with fail
    exact rdecl_ret (w := set8 w1 w.heap.size _ _ _ _ _ _ _ _) (eight_set RB.out _ _ _ _ _ _ _ _) rfl rfl rfl rfl (opt_none HO.out (set8_keeps (S := fun _ => False) (Keeps.of_below B1.out _) (.inr (Nat.le_refl _)) _ _ _ _ _ _ _ _).none_below _ _ _ _ _ _ _ _ _ _ _ _ _ _ _ _)
  have h3' : decide ((xs.length : Int) < 3) = false := decide_eq_false (by omega)
  have l1 : (1 : Int) < (xs.length : Int) := by omega
  have l2 : (2 : Int) < (xs.length : Int) := by omega
  have hs := List.getElem?_eq_getElem (l := xs) (i := 1) (by omega)
  have hx := List.getElem?_eq_getElem (l := xs) (i := 2) (by omega)
  generalize xs[1] = s at hs
  generalize xs[2] = x at hx
  have Hs := Lib.hid hs
  have Hx := Lib.hid hx
  obtain ⟨b, o, A1, c1, rfl, hc1, hr1⟩ := part_cells HX.out hs
  obtain ⟨b', o', A2, c2, hA, hc2, hr2⟩ := part_cells HX.out hx
  simp only [Option.some.injEq, Addr.mk.injEq, and_true] at hA
  obtain ⟨rfl, rfl⟩ := hA
  simp only [Nat.reduceMul, Nat.add_assoc, Nat.reduceAdd] at hc1 hc2
  have C1 := Lib.hid hc1
  have C2 := Lib.hid hc2
  have R2 := Lib.hid hr2
  have HsT := Lib.hid (show (s.text.size : Int) ≤ 140737488351232 by obtain ⟨_, _, _, _, _, _, h1, _⟩ := hr1.open'; exact h1)
  have HxT := Lib.hid (show (x.text.size : Int) ≤ 140737488351232 by obtain ⟨_, _, _, _, _, _, h1, _⟩ := hr2.open'; exact h1)
  have HL3 := Lib.hid (show 3 ≤ xs.length by omega)
  have HIs := Lib.hid (fun W => rissym_any (w := W) s A1 c1)
  clear h3 hs hx hc1 hc2 hr1 hr2
  unfold agS at HIs
  obtain ⟨x0, x1, x2⟩ := C1.out w1 (HB.out.trans (B1.out.mono HB.out.size))
  go_wp2_with fail
  refine (HIs.out _).mono ?_
  rintro e w2 ⟨rfl, hb2⟩
  have RB2 := Lib.hid ((hb2.block _ (lt_of_block RB.out)).trans RB.out)
  have CB2 := Lib.hid ((hb2.block _ (lt_of_block CB.out)).trans CB.out)
  have B2 := Lib.hid (B1.out.trans (hb2.mono B1.out.size))
  clear hb2 x0 x1 x2 RB CB B1 HIs
  obtain ⟨x0, x1, x2⟩ := C1.out w2 (HB.out.trans (B2.out.mono HB.out.size))
  by_cases h0 : s.kind = 0
  · rw [decide_eq_true h0]
    have HSy := Lib.hid (symN_yes h0)
    have RB3 := Lib.hid ((Below.heap_setCell w2 ⟨w.heap.size + 1, 1, none⟩ (.string s.text) w.heap.size (by show w.heap.size ≠ w.heap.size + 1; omega)).trans RB2.out)
    have CB3 := Lib.hid (setCell_at CB2.out 1 (.string s.text))
    simp only [List.setIfInBounds_toArray, List.set_cons_zero, List.set_cons_succ] at CB3
    have B3 := Lib.hid (B2.out.setCell (p := ⟨w.heap.size + 1, 1, none⟩) (by show w.heap.size ≤ w.heap.size + 1; omega) (.string s.text))
    clear h0
    obtain ⟨y0, y1, y2, y3, y4, y5, y6, y7, yf⟩ := eight_cells CB2.out
    go_upto_region 5 with fail
    generalize w2.setCell ⟨w.heap.size + 1, 1, none⟩ (.string s.text) = w3 at *
    clear y0 y1 y2 y3 y4 y5 y6 y7 yf RB2 CB2 B2 x0 x1 x2
    have W3 := Lib.hid (HB.out.trans (B3.out.mono HB.out.size))
    by_cases hS : h = sSort
    · have hS' : (h.toList == [100, 101, 99, 108, 97, 114, 101, 45, 115, 111, 114, 116]) = true := tl_true hS
      have HD := Lib.hid (show declO h xs.tail = if xs.length = 3 then (smallN x 0).map fun _ => { noCmd with kind := 2, name := s.text } else none by
        unfold declO; rw [if_pos hS, sort_eq Hs.out Hx.out, HSy.out]; rfl)
      have HSm := Lib.hid (rsmall_any (w := w3) x A2 c2 HxT.out 0)
      obtain ⟨x0, x1, x2⟩ := C2.out w3 W3.out
      clear hS
      unfold agS at *
      go_wp2_with fail
      refine HSm.out.mono ?_
      rintro e w4 ⟨⟨v, hv, rfl, hve⟩, hb4⟩
      have RB4 := Lib.hid ((hb4.block _ (lt_of_block RB3.out)).trans RB3.out)
      have CB4 := Lib.hid ((hb4.block _ (lt_of_block CB3.out)).trans CB3.out)
      have B4 := Lib.hid (B3.out.trans (hb4.mono B3.out.size))
      have HVe := Lib.hid hve
      clear hb4 x0 x1 x2 RB3 CB3 B3 HSm hv hve
      by_cases hl : xs.length = 3
      · have hl' : ((xs.length : Int) == 3) = true := by simp; omega
        have HD2 := Lib.hid (HD.out.trans (if_pos hl))
        clear hl
        cases hn : smallN x 0 with
        | none =>
          have HO := Lib.hid (show declO h xs.tail = none by rw [HD2.out, hn]; rfl)
          clear hn
          obtain ⟨z0, z1, z2, z3, z4, z5, z6, z7, zf⟩ := eight_cells RB4.out
          obtain ⟨y0, y1, y2, y3, y4, y5, y6, y7, yf⟩ := eight_cells CB4.out
          go_wp2_with fail
          exact rdecl_ret (w := set8 w4 w.heap.size _ _ _ _ _ _ _ _) (eight_set RB4.out _ _ _ _ _ _ _ _) rfl rfl rfl rfl (opt_none HO.out (set8_keeps (S := fun _ => False) (Keeps.of_below B4.out _) (.inr (Nat.le_refl _)) _ _ _ _ _ _ _ _).none_below _ _ _ _ _ _ _ _ _ _ _ _ _ _ _ _)
        | some n =>
          have hv0 : v = 0 := by
            obtain ⟨_, q2, q3⟩ := small_some hn
            rw [HVe.out n hn]; omega
          have HO := Lib.hid (show declO h xs.tail = some { noCmd with kind := 2, name := s.text } by rw [HD2.out, hn]; rfl)
          subst hv0
          clear hn
          obtain ⟨z0, z1, z2, z3, z4, z5, z6, z7, zf⟩ := eight_cells RB4.out
          obtain ⟨y0, y1, y2, y3, y4, y5, y6, y7, yf⟩ := eight_cells CB4.out
          go_wp2_with fail
          refine rdecl_ret (w := set8 w4 w.heap.size _ _ _ _ _ _ _ _) (eight_set RB4.out _ _ _ _ _ _ _ _) rfl rfl rfl rfl (opt_some HO.out (set8_keeps (S := fun _ => False) (Keeps.of_below B4.out _) (.inr (Nat.le_refl _)) _ _ _ _ _ _ _ _).none_below _ _ _ _ _ _ _ _ _ _ _ _ _ _ _ _ (fun W' hW => ?_))
          exact cmdR_zero W' { noCmd with kind := 2, name := s.text } rfl rfl rfl rfl (show (Lit.int .i8 2).wf = true by decide) (show I64 0 from ⟨by decide, by decide⟩) HsT.out (show ((noS.size : Nat) : Int) ≤ 140737488351232 by decide)
      · have hl' : ((xs.length : Int) == 3) = false := by simp; omega
        have HO := Lib.hid (show declO h xs.tail = none from HD.out.trans (if_neg hl))
        clear hl
        obtain ⟨z0, z1, z2, z3, z4, z5, z6, z7, zf⟩ := eight_cells RB4.out
        obtain ⟨y0, y1, y2, y3, y4, y5, y6, y7, yf⟩ := eight_cells CB4.out
        go_wp2_with fail
        exact rdecl_ret (w := set8 w4 w.heap.size _ _ _ _ _ _ _ _) (eight_set RB4.out _ _ _ _ _ _ _ _) rfl rfl rfl rfl (opt_none HO.out (set8_keeps (S := fun _ => False) (Keeps.of_below B4.out _) (.inr (Nat.le_refl _)) _ _ _ _ _ _ _ _).none_below _ _ _ _ _ _ _ _ _ _ _ _ _ _ _ _)
    have hS' : (h.toList == [100, 101, 99, 108, 97, 114, 101, 45, 115, 111, 114, 116]) = false := tl_false hS
    have HD := Lib.hid (show declO h xs.tail = if h = sFun then funO xs.tail else defineO xs.tail by unfold declO; rw [if_neg hS])
    clear hS
    by_cases h4 : xs.length < 4
    · have h4' : decide ((xs.length : Int) < 4) = true := decide_eq_true (by omega)
      have HO := Lib.hid (show declO h xs.tail = none by rw [HD.out, fun_short h4, define_short h4]; split <;> rfl)
      clear h4
      obtain ⟨z0, z1, z2, z3, z4, z5, z6, z7, zf⟩ := eight_cells RB3.out
      obtain ⟨y0, y1, y2, y3, y4, y5, y6, y7, yf⟩ := eight_cells CB3.out
      go_wp2_with fail
      exact rdecl_ret (w := set8 w3 w.heap.size _ _ _ _ _ _ _ _) (eight_set RB3.out _ _ _ _ _ _ _ _) rfl rfl rfl rfl (opt_none HO.out (set8_keeps (S := fun _ => False) (Keeps.of_below B3.out _) (.inr (Nat.le_refl _)) _ _ _ _ _ _ _ _).none_below _ _ _ _ _ _ _ _ _ _ _ _ _ _ _ _)
    have h4' : decide ((xs.length : Int) < 4) = false := decide_eq_false (by omega)
    have l3 : (3 : Int) < (xs.length : Int) := by omega
    have ht := List.getElem?_eq_getElem (l := xs) (i := 3) (by omega)
    generalize xs[3] = t at ht
    obtain ⟨b', o', A3, c3, hA, hc3, hr3⟩ := part_cells HX.out ht
    simp only [Option.some.injEq, Addr.mk.injEq, and_true] at hA
    obtain ⟨rfl, rfl⟩ := hA
    simp only [Nat.reduceMul, Nat.add_assoc, Nat.reduceAdd] at hc3
    have C3 := Lib.hid hc3
    have Ht := Lib.hid ht
    have HtT := Lib.hid (show (t.text.size : Int) ≤ 140737488351232 by obtain ⟨_, _, _, _, _, _, h1, _⟩ := hr3.open'; exact h1)
    have HIs := Lib.hid (fun W => rissym_any (w := W) t A3 c3)
    have HL4 := Lib.hid (show 4 ≤ xs.length by omega)
    have HMany := Lib.hid (fun hq => show declO h xs.tail = none by rw [HD.out, fun_many Hs.out Hx.out ht hq, define_many Hs.out Hx.out ht hq]; split <;> rfl)
    clear h4 ht hc3 hr3
    unfold agS at HIs
    obtain ⟨x0, x1, x2⟩ := C3.out w3 W3.out
    go_wp2_with fail
    refine (HIs.out _).mono ?_
    rintro e w4 ⟨rfl, hb4⟩
    have RB4 := Lib.hid ((hb4.block _ (lt_of_block RB3.out)).trans RB3.out)
    have CB4 := Lib.hid ((hb4.block _ (lt_of_block CB3.out)).trans CB3.out)
    have B4 := Lib.hid (B3.out.trans (hb4.mono B3.out.size))
    clear hb4 x0 x1 x2 RB3 CB3 B3 HIs W3
    have W4 := Lib.hid (HB.out.trans (B4.out.mono HB.out.size))
    obtain ⟨x0, x1, x2⟩ := C2.out w4 W4.out
    obtain ⟨u0, u1, u2⟩ := C3.out w4 W4.out
    by_cases h0 : t.kind = 0
    · rw [decide_eq_true h0]
      have HTy := Lib.hid (symN_yes h0)
      clear h0
      by_cases hm : x.l.length ≤ 3
      · have hm' : decide ((3 : Int) < (x.l.length : Int)) = false := decide_eq_false (by omega)
        have HM := Lib.hid hm
        clear hm
        have RB5 := Lib.hid ((Below.heap_setCell w4 ⟨w.heap.size + 1, 6, none⟩ (.string t.text) w.heap.size (by show w.heap.size ≠ w.heap.size + 1; omega)).trans RB4.out)
        have CB5 := Lib.hid (setCell_at CB4.out 6 (.string t.text))
        simp only [List.setIfInBounds_toArray, List.set_cons_zero, List.set_cons_succ] at CB5
        have B5 := Lib.hid (B4.out.setCell (p := ⟨w.heap.size + 1, 6, none⟩) (by show w.heap.size ≤ w.heap.size + 1; omega) (.string t.text))
        obtain ⟨y0, y1, y2, y3, y4, y5, y6, y7, yf⟩ := eight_cells CB4.out
        go_upto_region 12 with fail
        generalize w4.setCell ⟨w.heap.size + 1, 6, none⟩ (.string t.text) = w5 at *
        clear y0 y1 y2 y3 y4 y5 y6 y7 yf RB4 CB4 B4 x0 x1 x2 u0 u1 u2 W4 hm' h4' h3' hS'
        have W5 := Lib.hid (HB.out.trans (B5.out.mono HB.out.size))
        by_cases hF : h = sFun
        · have hF' : (h.toList == [100, 101, 99, 108, 97, 114, 101, 45, 102, 117, 110]) = true := tl_true hF
          have HD2 := Lib.hid (show declO h xs.tail = if xs.length = 4 then (namesN x).bind fun l => if l.length ≤ 3 then some { noCmd with kind := 3, name := s.text, args := l, res := t.text } else none else none by
            rw [HD.out, if_pos hF, fun_eq Hs.out Hx.out Ht.out, HSy.out, HTy.out]; rfl)
          have RB6 := Lib.hid ((Below.heap_setCell w5 ⟨w.heap.size + 1, 0, none⟩ (.int .i8 3) w.heap.size (by show w.heap.size ≠ w.heap.size + 1; omega)).trans RB5.out)
          have CB6 := Lib.hid (setCell_at CB5.out 0 (.int .i8 3))
          simp only [List.setIfInBounds_toArray, List.set_cons_zero, List.set_cons_succ] at CB6
          have B6 := Lib.hid (B5.out.setCell (p := ⟨w.heap.size + 1, 0, none⟩) (by show w.heap.size ≤ w.heap.size + 1; omega) (.int .i8 3))
          clear hF
          obtain ⟨y0, y1, y2, y3, y4, y5, y6, y7, yf⟩ := eight_cells CB5.out
          go_upto_region 14 with fail
          generalize w5.setCell ⟨w.heap.size + 1, 0, none⟩ (.int .i8 3) = w6 at *
          clear y0 y1 y2 y3 y4 y5 y6 y7 yf RB5 CB5 B5 W5 hF'
          have W6 := Lib.hid (HB.out.trans (B6.out.mono HB.out.size))
          have HNm := Lib.hid (rnames_any (w := w6) (SexpR.lasts _ _ _ _ W6.out R2.out))
          obtain ⟨x0, x1, x2⟩ := C2.out w6 W6.out
          unfold agS at HNm
          go_wp2_with fail
          refine HNm.out.mono ?_
          rintro e w7 ⟨l, A7, c7, ⟨rfl, hl1, hl2⟩, hnl, heq, hb7⟩
          have RB7 := Lib.hid ((hb7.block _ (lt_of_block RB6.out)).trans RB6.out)
          have CB7 := Lib.hid ((hb7.block _ (lt_of_block CB6.out)).trans CB6.out)
          have B7 := Lib.hid (B6.out.trans (hb7.mono B6.out.size))
          have RB8 := Lib.hid ((Below.heap_setCell w7 ⟨w.heap.size + 1, 4, none⟩ (.slice A7 l.length c7) w.heap.size (by show w.heap.size ≠ w.heap.size + 1; omega)).trans RB7.out)
          have CB8 := Lib.hid (setCell_at CB7.out 4 (.slice A7 l.length c7))
          simp only [List.setIfInBounds_toArray, List.set_cons_zero, List.set_cons_succ] at CB8
          have B8 := Lib.hid (B7.out.setCell (p := ⟨w.heap.size + 1, 4, none⟩) (by show w.heap.size ≤ w.heap.size + 1; omega) (.slice A7 l.length c7))
          have HNl := Lib.hid hnl
          have HLl := Lib.hid (And.intro hl1 hl2)
          have HLt6 := Lib.hid (lt_of_block CB6.out)
          have K8 := Lib.hid (show Keeps (fun j => j < w6.heap.size) w7 (w7.setCell ⟨w.heap.size + 1, 4, none⟩ (.slice A7 l.length c7)) from (Keeps.refl _ w7).setCell (.inl HLt6.out) _)
          have HEq := Lib.hid heq
          clear hb7 hnl heq hl1 hl2 x0 x1 x2 RB6 CB6 B6 W6 HNm
          obtain ⟨y0, y1, y2, y3, y4, y5, y6, y7, yf⟩ := eight_cells CB7.out
          go_upto_region 15 with fail
          generalize w7.setCell ⟨w.heap.size + 1, 4, none⟩ (.slice A7 l.length c7) = w8 at *
          clear y0 y1 y2 y3 y4 y5 y6 y7 yf RB7 CB7 B7
          cases hn : namesN x with
          | none =>
            have HO := Lib.hid (show declO h xs.tail = none by rw [HD2.out, hn]; split <;> rfl)
            clear hn
            obtain ⟨z0, z1, z2, z3, z4, z5, z6, z7, zf⟩ := eight_cells RB8.out
            obtain ⟨y0, y1, y2, y3, y4, y5, y6, y7, yf⟩ := eight_cells CB8.out
            go_wp2_with fail
            exact rdecl_ret (w := set8 w8 w.heap.size _ _ _ _ _ _ _ _) (eight_set RB8.out _ _ _ _ _ _ _ _) rfl rfl rfl rfl (opt_none HO.out (set8_keeps (S := fun _ => False) (Keeps.of_below B8.out _) (.inr (Nat.le_refl _)) _ _ _ _ _ _ _ _).none_below _ _ _ _ _ _ _ _ _ _ _ _ _ _ _ _)
          | some l0 =>
            obtain rfl : l = l0 := HEq.out l0 hn
            by_cases hl : xs.length = 4
            · have hl' : ((xs.length : Int) == 4) = true := by simp; omega
              have HO := Lib.hid (show declO h xs.tail = some { noCmd with kind := 3, name := s.text, args := l, res := t.text } by
                rw [HD2.out, if_pos hl, hn, Option.bind_some, if_pos (by rw [namesN_len hn]; exact HM.out)])
              clear hl hn
              obtain ⟨z0, z1, z2, z3, z4, z5, z6, z7, zf⟩ := eight_cells RB8.out
              obtain ⟨y0, y1, y2, y3, y4, y5, y6, y7, yf⟩ := eight_cells CB8.out
              go_wp2_with fail
              refine rdecl_ret (w := set8 w8 w.heap.size _ _ _ _ _ _ _ _) (eight_set RB8.out _ _ _ _ _ _ _ _) rfl rfl rfl rfl (opt_some HO.out (set8_keeps (S := fun _ => False) (Keeps.of_below B8.out _) (.inr (Nat.le_refl _)) _ _ _ _ _ _ _ _).none_below _ _ _ _ _ _ _ _ _ _ _ _ _ _ _ _ (fun W' hW => ?_))
              have hK := (set8_keeps K8.out (b := w.heap.size) (.inl (Nat.lt_trans (Nat.lt_succ_self _) HLt6.out)) _ _ _ _ _ _ _ _).trans_same (hW.mono (fun j hj => Nat.lt_trans hj.2 (Nat.lt_trans (Nat.lt_succ_self _) HLt6.out)))
              have hN9 := HNl.out.keep strR_flat hK (fun j hj => hj)
              exact ⟨none, 0, A7, c7, none, 0, none, 0, rfl, ⟨.inl rfl, hN9.lies, .inl rfl, .inl rfl, Nat.le_refl _, HLl.out.1, Nat.le_refl _, Nat.le_refl _, Nat.zero_le _, HLl.out.2, Nat.zero_le _, Nat.zero_le _, Nat.zero_le _, (show (Lit.int .i8 3).wf = true by decide), (show I64 0 from ⟨by decide, by decide⟩), HsT.out, HtT.out⟩⟩
            · have hl' : ((xs.length : Int) == 4) = false := by simp; omega
              have HO := Lib.hid (show declO h xs.tail = none by rw [HD2.out, if_neg hl])
              clear hl hn
              obtain ⟨z0, z1, z2, z3, z4, z5, z6, z7, zf⟩ := eight_cells RB8.out
              obtain ⟨y0, y1, y2, y3, y4, y5, y6, y7, yf⟩ := eight_cells CB8.out
              go_wp2_with fail
              exact rdecl_ret (w := set8 w8 w.heap.size _ _ _ _ _ _ _ _) (eight_set RB8.out _ _ _ _ _ _ _ _) rfl rfl rfl rfl (opt_none HO.out (set8_keeps (S := fun _ => False) (Keeps.of_below B8.out _) (.inr (Nat.le_refl _)) _ _ _ _ _ _ _ _).none_below _ _ _ _ _ _ _ _ _ _ _ _ _ _ _ _)
        · have hF' : (h.toList == [100, 101, 99, 108, 97, 114, 101, 45, 102, 117, 110]) = false := tl_false hF
          have HD2 := Lib.hid (show declO h xs.tail = if xs.length = 5 then (paramsN x).bind fun l => if l.length ≤ 3 then some { noCmd with kind := 4, name := s.text, params := l, res := t.text, terms := xs.drop 4 } else none else none by
            rw [HD.out, if_neg hF, define_eq Hs.out Hx.out Ht.out, HSy.out, HTy.out]; rfl)
          have RB6 := Lib.hid ((Below.heap_setCell w5 ⟨w.heap.size + 1, 0, none⟩ (.int .i8 4) w.heap.size (by show w.heap.size ≠ w.heap.size + 1; omega)).trans RB5.out)
          have CB6 := Lib.hid (setCell_at CB5.out 0 (.int .i8 4))
          simp only [List.setIfInBounds_toArray, List.set_cons_zero, List.set_cons_succ] at CB6
          have B6 := Lib.hid (B5.out.setCell (p := ⟨w.heap.size + 1, 0, none⟩) (by show w.heap.size ≤ w.heap.size + 1; omega) (.int .i8 4))
          clear hF
          obtain ⟨y0, y1, y2, y3, y4, y5, y6, y7, yf⟩ := eight_cells CB5.out
          go_upto_region 17 with fail
          generalize w5.setCell ⟨w.heap.size + 1, 0, none⟩ (.int .i8 4) = w6 at *
          clear y0 y1 y2 y3 y4 y5 y6 y7 yf RB5 CB5 B5 W5 hF'
          have W6 := Lib.hid (HB.out.trans (B6.out.mono HB.out.size))
          have HNm := Lib.hid (rparams_any (w := w6) (SexpR.lasts _ _ _ _ W6.out R2.out))
          obtain ⟨x0, x1, x2⟩ := C2.out w6 W6.out
          unfold agS at HNm
          go_wp2_with fail
          refine HNm.out.mono ?_
          rintro e w7 ⟨l, A7, c7, ⟨rfl, hl1, hl2⟩, hnl, heq, hb7⟩
          have RB7 := Lib.hid ((hb7.block _ (lt_of_block RB6.out)).trans RB6.out)
          have CB7 := Lib.hid ((hb7.block _ (lt_of_block CB6.out)).trans CB6.out)
          have B7 := Lib.hid (B6.out.trans (hb7.mono B6.out.size))
          have RB8 := Lib.hid ((Below.heap_setCell w7 ⟨w.heap.size + 1, 5, none⟩ (.slice A7 l.length c7) w.heap.size (by show w.heap.size ≠ w.heap.size + 1; omega)).trans RB7.out)
          have CB8 := Lib.hid (setCell_at CB7.out 5 (.slice A7 l.length c7))
          simp only [List.setIfInBounds_toArray, List.set_cons_zero, List.set_cons_succ] at CB8
          have B8 := Lib.hid (B7.out.setCell (p := ⟨w.heap.size + 1, 5, none⟩) (by show w.heap.size ≤ w.heap.size + 1; omega) (.slice A7 l.length c7))
          have HNl := Lib.hid hnl
          have HLl := Lib.hid (And.intro hl1 hl2)
          have HLt6 := Lib.hid (lt_of_block CB6.out)
          have K8 := Lib.hid (show Keeps (fun j => j < w6.heap.size) w7 (w7.setCell ⟨w.heap.size + 1, 5, none⟩ (.slice A7 l.length c7)) from (Keeps.refl _ w7).setCell (.inl HLt6.out) _)
          have HEq := Lib.hid heq
          clear hb7 hnl heq hl1 hl2 x0 x1 x2 RB6 CB6 B6 W6 HNm
          obtain ⟨y0, y1, y2, y3, y4, y5, y6, y7, yf⟩ := eight_cells CB7.out
          go_upto_region 18 with fail
          generalize w7.setCell ⟨w.heap.size + 1, 5, none⟩ (.slice A7 l.length c7) = w8 at *
          clear y0 y1 y2 y3 y4 y5 y6 y7 yf RB7 CB7 B7
          cases hn : paramsN x with
          | none =>
            have HO := Lib.hid (show declO h xs.tail = none by rw [HD2.out, hn]; split <;> rfl)
            clear hn
            obtain ⟨z0, z1, z2, z3, z4, z5, z6, z7, zf⟩ := eight_cells RB8.out
            obtain ⟨y0, y1, y2, y3, y4, y5, y6, y7, yf⟩ := eight_cells CB8.out
            go_wp2_with fail
            exact rdecl_ret (w := set8 w8 w.heap.size _ _ _ _ _ _ _ _) (eight_set RB8.out _ _ _ _ _ _ _ _) rfl rfl rfl rfl (opt_none HO.out (set8_keeps (S := fun _ => False) (Keeps.of_below B8.out _) (.inr (Nat.le_refl _)) _ _ _ _ _ _ _ _).none_below _ _ _ _ _ _ _ _ _ _ _ _ _ _ _ _)
          | some l0 =>
            obtain rfl : l = l0 := HEq.out l0 hn
            by_cases hl : xs.length = 5
            · have hl' : ((xs.length : Int) != 5) = false := by simp; omega
              have HO := Lib.hid (show declO h xs.tail = some { noCmd with kind := 4, name := s.text, params := l, res := t.text, terms := xs.drop 4 } by
                rw [HD2.out, if_pos hl, hn, Option.bind_some, if_pos (by rw [paramsN_len hn]; exact HM.out)])
              have HTl := Lib.hid (show (xs.drop 4).length = 1 by simp; omega)
              have HLd := Lib.hid (lies_drop HX.out 4)
              have hc4 : (4 : Int) ≤ (c : Int) := by have := HLc.out.1; omega
              have hc5 : (xs.length : Int) ≤ (c : Int) := by have := HLc.out.1; omega
              have hc6 : 4 ≤ xs.length := HL4.out
              have RB9 := Lib.hid ((Below.heap_setCell w8 ⟨w.heap.size + 1, 7, none⟩ (.slice (some ⟨b, o + 12, none⟩) 1 (c - 4)) w.heap.size (by show w.heap.size ≠ w.heap.size + 1; omega)).trans RB8.out)
              have CB9 := Lib.hid (setCell_at CB8.out 7 (.slice (some ⟨b, o + 12, none⟩) 1 (c - 4)))
              simp only [List.setIfInBounds_toArray, List.set_cons_zero, List.set_cons_succ] at CB9
              have B9 := Lib.hid (B8.out.setCell (p := ⟨w.heap.size + 1, 7, none⟩) (by show w.heap.size ≤ w.heap.size + 1; omega) (.slice (some ⟨b, o + 12, none⟩) 1 (c - 4)))
              have K9 := Lib.hid (K8.out.setCell (p := ⟨w.heap.size + 1, 7, none⟩) (.inl HLt6.out) (.slice (some ⟨b, o + 12, none⟩) 1 (c - 4)))
              clear hn
              obtain ⟨y0, y1, y2, y3, y4, y5, y6, y7, yf⟩ := eight_cells CB8.out
              go_upto_region 21 with fail
              generalize w8.setCell ⟨w.heap.size + 1, 7, none⟩ (.slice (some ⟨b, o + 12, none⟩) 1 (c - 4)) = w9 at *
              clear y0 y1 y2 y3 y4 y5 y6 y7 yf RB8 CB8 B8
              obtain ⟨z0, z1, z2, z3, z4, z5, z6, z7, zf⟩ := eight_cells RB9.out
              obtain ⟨y0, y1, y2, y3, y4, y5, y6, y7, yf⟩ := eight_cells CB9.out
              go_wp2_with fail
              refine rdecl_ret (w := set8 w9 w.heap.size _ _ _ _ _ _ _ _) (eight_set RB9.out _ _ _ _ _ _ _ _) rfl rfl rfl rfl (opt_some HO.out (set8_keeps (S := fun _ => False) (Keeps.of_below B9.out _) (.inr (Nat.le_refl _)) _ _ _ _ _ _ _ _).none_below _ _ _ _ _ _ _ _ _ _ _ _ _ _ _ _ (fun W' hW => ?_))
              have hK := (set8_keeps K9.out (b := w.heap.size) (.inl (Nat.lt_trans (Nat.lt_succ_self _) HLt6.out)) _ _ _ _ _ _ _ _).trans_same (hW.mono (fun j hj => Nat.lt_trans hj.2 (Nat.lt_trans (Nat.lt_succ_self _) HLt6.out)))
              have hN9 := HNl.out.keep pairR_flat hK (fun j hj => hj)
              have hT9 := HLd.out.on SexpR.lasts (stay_below (HB.out.trans ((set8_keeps (S := fun _ => False) (Keeps.of_below B9.out _) (.inr (Nat.le_refl _)) _ _ _ _ _ _ _ _).none_below.mono HB.out.size)) hW)
              exact ⟨none, 0, none, 0, A7, c7, some ⟨b, o + 12, none⟩, c - 4, by unfold cmdCells; show _ = [_, _, _, _, _, _, _, Value.slice _ (xs.drop 4).length _]; rw [HTl.out]; rfl, ⟨.inl rfl, .inl rfl, hN9.lies, hT9, Nat.le_refl _, Nat.le_refl _, HLl.out.1, by show (xs.drop 4).length ≤ _; rw [HTl.out]; omega, Nat.zero_le _, Nat.zero_le _, HLl.out.2, by have := HLc.out.2.1; omega, by show (xs.drop 4).length * 48 ≤ _; rw [HTl.out]; decide, (show (Lit.int .i8 4).wf = true by decide), (show I64 0 from ⟨by decide, by decide⟩), HsT.out, HtT.out⟩⟩
            · have hl' : ((xs.length : Int) != 5) = true := by simp; omega
              have HO := Lib.hid (show declO h xs.tail = none by rw [HD2.out, if_neg hl])
              clear hl hn
              obtain ⟨z0, z1, z2, z3, z4, z5, z6, z7, zf⟩ := eight_cells RB8.out
              obtain ⟨y0, y1, y2, y3, y4, y5, y6, y7, yf⟩ := eight_cells CB8.out
              go_wp2_with fail
              exact rdecl_ret (w := set8 w8 w.heap.size _ _ _ _ _ _ _ _) (eight_set RB8.out _ _ _ _ _ _ _ _) rfl rfl rfl rfl (opt_none HO.out (set8_keeps (S := fun _ => False) (Keeps.of_below B8.out _) (.inr (Nat.le_refl _)) _ _ _ _ _ _ _ _).none_below _ _ _ _ _ _ _ _ _ _ _ _ _ _ _ _)
      · have hm' : decide ((3 : Int) < (x.l.length : Int)) = true := decide_eq_true (by omega)
        have HO := Lib.hid (HMany.out (.inl (by omega)))
        clear hm
        obtain ⟨z0, z1, z2, z3, z4, z5, z6, z7, zf⟩ := eight_cells RB4.out
        obtain ⟨y0, y1, y2, y3, y4, y5, y6, y7, yf⟩ := eight_cells CB4.out
        go_wp2_with fail
        exact rdecl_ret (w := set8 w4 w.heap.size _ _ _ _ _ _ _ _) (eight_set RB4.out _ _ _ _ _ _ _ _) rfl rfl rfl rfl (opt_none HO.out (set8_keeps (S := fun _ => False) (Keeps.of_below B4.out _) (.inr (Nat.le_refl _)) _ _ _ _ _ _ _ _).none_below _ _ _ _ _ _ _ _ _ _ _ _ _ _ _ _)
    · rw [decide_eq_false h0]
      have HO := Lib.hid (HMany.out (.inr h0))
      clear h0
      obtain ⟨z0, z1, z2, z3, z4, z5, z6, z7, zf⟩ := eight_cells RB4.out
      obtain ⟨y0, y1, y2, y3, y4, y5, y6, y7, yf⟩ := eight_cells CB4.out
      go_wp2_with fail
      exact rdecl_ret (w := set8 w4 w.heap.size _ _ _ _ _ _ _ _) (eight_set RB4.out _ _ _ _ _ _ _ _) rfl rfl rfl rfl (opt_none HO.out (set8_keeps (S := fun _ => False) (Keeps.of_below B4.out _) (.inr (Nat.le_refl _)) _ _ _ _ _ _ _ _).none_below _ _ _ _ _ _ _ _ _ _ _ _ _ _ _ _)
  · rw [decide_eq_false h0]
    have HO := Lib.hid (declO_nosym h Hs.out Hx.out h0)
    clear h0
    obtain ⟨z0, z1, z2, z3, z4, z5, z6, z7, zf⟩ := eight_cells RB2.out
    obtain ⟨y0, y1, y2, y3, y4, y5, y6, y7, yf⟩ := eight_cells CB2.out
    go_wp2_with fail
    exact rdecl_ret (w := set8 w2 w.heap.size _ _ _ _ _ _ _ _) (eight_set RB2.out _ _ _ _ _ _ _ _) rfl rfl rfl rfl (opt_none HO.out (set8_keeps (S := fun _ => False) (Keeps.of_below B2.out _) (.inr (Nat.le_refl _)) _ _ _ _ _ _ _ _).none_below _ _ _ _ _ _ _ _ _ _ _ _ _ _ _ _)
end Go.Proofs.YtbchcipjpcdhfaaGreatDoor.Cm
