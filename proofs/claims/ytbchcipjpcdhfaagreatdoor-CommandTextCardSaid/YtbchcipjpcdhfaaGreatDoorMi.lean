import Derived.Test.YtbchcipjpcdhfaaGreatDoorMh
import Derived.Deep.RegionHeld3
import Derived.WalkMore
import Derived.Test.YtbchcipjpcdhfaaGreatDoorMg
/- merged by wip/merge.py from: CmdDefine -/
/- The form define-fun. -/
namespace Go.Proofs.YtbchcipjpcdhfaaGreatDoor.Cm
open Go.RowKit Go.Proofs.YtbchcipjpcdhfaaGreatDoor.Dt

theorem upv_upv (f : Nat → Value) (i : Nat) (u v : Value) : upv (upv f i u) i v = upv f i v := by
  funext j
  unfold upv
  by_cases h : j = i
  · rw [if_pos h, if_pos h]
  · rw [if_neg h, if_neg h, if_neg h]
theorem info_pair : (Tryz.prog.info? 56).map (fun i => (i.zero, i.size, i.bytes)) = some (some (.agg #[.string { data := #[] }, .string { data := #[] }]), 2, 32) := by kernel_rfl
theorem eachO_len {α β : Type} {f : α → Option β} : ∀ {l : List α} {r : List β}, eachO f l = some r → r.length = l.length
  | [], r, h => by simp only [eachO, Option.some.injEq] at h; subst h; rfl
  | x :: l, r, h => by
    unfold eachO at h
    obtain ⟨y, _, h⟩ := bind_some' h
    obtain ⟨q, e, rfl⟩ := map_some' h
    rw [List.length_cons, List.length_cons, eachO_len e]
theorem eachO_snoc {α β : Type} {f : α → Option β} (x : α) : ∀ {l : List α} {r : List β}, eachO f l = some r → eachO f (l ++ [x]) = (f x).map fun y => r ++ [y]
  | [], r, h => by
    simp only [eachO, Option.some.injEq] at h
    subst h
    rw [List.nil_append]
    unfold eachO
    cases f x <;> rfl
  | z :: l, r, h => by
    unfold eachO at h
    obtain ⟨y, e1, h⟩ := bind_some' h
    obtain ⟨q, e, rfl⟩ := map_some' h
    rw [List.cons_append]
    unfold eachO
    rw [e1, Option.bind_some, eachO_snoc x e]
    cases f x <;> rfl
theorem eachO_none {α β : Type} {f : α → Option β} {x : α} (hx : f x = none) : ∀ {l : List α}, x ∈ l → eachO f l = none
  | z :: l, h => by
    unfold eachO
    rcases List.mem_cons.1 h with e | e
    · subst e; rw [hx]; rfl
    · rw [eachO_none hx e]; cases f z <;> rfl
theorem pairN_bad {y : Sexp} (h : ((false || !sized y 2 2) || (okL false y 2 2).any noSym) = true) : pairN y = none := by
  unfold pairN
  rw [namesN_eq]
  by_cases h3 : y.kind = 3
  · rw [if_pos h3]
    by_cases hl : y.l.length = 2
    · have hz : sized y 2 2 = true := by unfold sized; simp [h3, hl]
      have ho : okL false y 2 2 = y.l := by unfold okL; rw [hz]; rfl
      rw [hz, ho] at h
      have : y.l.any noSym = true := by simpa using h
      rw [if_pos this]; rfl
    · split
      · rfl
      · rw [Option.bind_some]
        split
        · rename_i a b e
          exact absurd (by have := congrArg List.length e; simpa using this) hl
        · rfl
  · rw [if_neg h3]; rfl
theorem pairN_good {y : Sexp} (h : ((false || !sized y 2 2) || (okL false y 2 2).any noSym) = false) : ∃ a b, okL false y 2 2 = [a, b] ∧ pairN y = some (a.text, b.text) := by
  have hz : sized y 2 2 = true := by
    cases hh : sized y 2 2 with
    | true => rfl
    | false => rw [hh] at h; simp at h
  have ho : okL false y 2 2 = y.l := by unfold okL; rw [hz]; rfl
  rw [hz, ho] at h
  have ha : y.l.any noSym = false := by simpa using h
  unfold sized at hz
  rw [Bool.and_eq_true, Bool.and_eq_true, decide_eq_true_eq, decide_eq_true_eq, decide_eq_true_eq] at hz
  obtain ⟨a, b, e⟩ := two_of (xs := y.l) (by omega)
  refine ⟨a, b, by rw [ho, e], ?_⟩
  unfold pairN
  rw [namesN_eq, if_pos hz.1, if_neg (by rw [ha]; decide), e]
  rfl
theorem five_of {xs : List Sexp} (h : xs.length = 5) : ∃ a b c d e, xs = [a, b, c, d, e] := by
  match xs, h with
  | [a, b, c, d, e], _ => exact ⟨a, b, c, d, e, rfl⟩
theorem defineO_open {xs : List Sexp} {c : Cmd} (h : defineO xs.tail = some c) : xs.length = 5 ∧ (partS xs 1).kind = 0 ∧ (∃ ps, paramsN (partS xs 2) = some ps ∧ ps.length ≤ 3) ∧ (partS xs 3).kind = 0 := by
  unfold defineO at h
  split at h
  · rename_i s x t y e
    have hl : xs.length = 5 := by have := congrArg List.length e; rw [List.length_tail] at this; simp at this; omega
    obtain ⟨a0, a1, a2, a3, a4, rfl⟩ := five_of hl
    simp at e
    obtain ⟨rfl, rfl, rfl, rfl⟩ := e
    obtain ⟨a, e1, h⟩ := bind_some' h
    obtain ⟨ps, e2, h⟩ := bind_some' h
    split at h
    · rename_i h3
      obtain ⟨b, e3, _⟩ := map_some' h
      refine ⟨rfl, ?_, ⟨ps, e2, h3⟩, ?_⟩
      · unfold symN at e1
        split at e1
        · assumption
        · cases e1
      · unfold symN at e3
        split at e3
        · assumption
        · cases e3
    · cases h
  · cases h
/-- what the reading of the parameters leaves -/
def DefP (xs : List Sexp) (β : Bool) (ps : List (ByteArray × ByteArray)) : Prop :=
  (β = false ∧ xs.length = 5 ∧ (partS xs 1).kind = 0 ∧ paramsN (partS xs 2) = some ps ∧ ps.length ≤ 3) ∨ (β = true ∧ defineO xs.tail = none)
theorem paramsN_sized {x : Sexp} {ps : List (ByteArray × ByteArray)} (h : paramsN x = some ps) (hl : ps.length ≤ 3) : sized x 0 3 = true ∧ eachO pairN x.l = some ps := by
  unfold paramsN listN at h
  split at h
  · rename_i hk
    rw [Option.bind_some] at h
    have := eachO_len h
    refine ⟨?_, h⟩
    unfold sized
    simp [hk]; omega
  · cases h
theorem defP_end {xs : List Sexp} {b : Bool} {ps : List (ByteArray × ByteArray)} (hb : b = ((((false || !decide (xs.length = 5)) || decide (xs.length ≤ 1)) || !decide ((partS xs 1).kind = 0)) || decide (xs.length ≤ 2)))
    (h : eachO pairN (okL b (partS xs 2) 0 3) = some ps) : DefP xs (b || !sized (partS xs 2) 0 3) ps := by
  cases hq : (b || !sized (partS xs 2) 0 3) with
  | false =>
    refine .inl ⟨rfl, ?_⟩
    have ho : okL b (partS xs 2) 0 3 = (partS xs 2).l := by unfold okL; rw [hq]; rfl
    rw [Bool.or_eq_false_iff] at hq
    obtain ⟨h1, h2⟩ := hq
    rw [ho] at h
    rw [h1] at hb
    have h5 : xs.length = 5 := by
      by_cases h5 : xs.length = 5
      · exact h5
      · simp [h5] at hb
    have hk : (partS xs 1).kind = 0 := by
      by_cases hk : (partS xs 1).kind = 0
      · exact hk
      · simp [hk] at hb
    have hz : sized (partS xs 2) 0 3 = true := by simpa using h2
    unfold sized at hz
    rw [Bool.and_eq_true, Bool.and_eq_true, decide_eq_true_eq, decide_eq_true_eq, decide_eq_true_eq] at hz
    refine ⟨h5, hk, ?_, by rw [eachO_len h]; exact hz.2.2⟩
    unfold paramsN listN
    rw [if_pos hz.1, Option.bind_some, h]
  | true =>
    refine .inr ⟨rfl, ?_⟩
    cases hd : defineO xs.tail with
    | none => rfl
    | some c =>
      obtain ⟨h5, h1, ⟨ps', h2, h3⟩, _⟩ := defineO_open hd
      have hz := (paramsN_sized h2 h3).1
      have : b = false := by rw [hb]; simp [h5, h1]
      rw [this, hz] at hq
      cases hq
theorem okL_mem {b : Bool} {x y : Sexp} {lo hi k : Nat} (h : (okL b x lo hi)[k]? = some y) : (b || !sized x lo hi) = false ∧ y ∈ x.l := by
  unfold okL at h
  split at h
  · simp at h
  · rename_i hq
    exact ⟨by simpa using hq, List.mem_of_getElem? h⟩
theorem defP_break {xs : List Sexp} {b : Bool} {y : Sexp} {k : Nat} {ps : List (ByteArray × ByteArray)} (h : (okL b (partS xs 2) 0 3)[k]? = some y) (hy : pairN y = none) : DefP xs true ps := by
  refine .inr ⟨rfl, ?_⟩
  cases hd : defineO xs.tail with
  | none => rfl
  | some c =>
    obtain ⟨h5, h1, ⟨ps', h2, h3⟩, _⟩ := defineO_open hd
    have := (paramsN_sized h2 h3).2
    rw [eachO_none hy (okL_mem h).2] at this
    cases this
theorem define_made {W0 w' : World} {A A12 : Option Addr} {c c12 nb : Nat} {xs : List Sexp} {cv : Nat → Value} {β : Bool} {ps : List (ByteArray × ByteArray)} (hP : DefP xs β ps)
    (hl : Lies 2 PairR w' A ps) (h1 : ps.length ≤ c) (h2 : c ≤ maxLen)
    (hs1 : ((partS xs 1).text.size : Int) ≤ 140737488351232) (hs2 : ((partS xs 3).text.size : Int) ≤ 140737488351232)
    (hr : SexpR W0 [.int .i8 (partS xs 4).kind, .string (partS xs 4).text, .slice A12 (partS xs 4).l.length c12] (partS xs 4)) (hb : Below W0.heap.size W0 w')
    (hn : w'.heap[nb]? = some (.cells #[.int .i8 (partS xs 4).kind, .string (partS xs 4).text, .slice A12 (partS xs 4).l.length c12] 25 (0, 0)))
    (hcv : cells8 cv = [.int .i8 4, .string (partS xs 1).text, .int .i64 0, .slice none 0 0, .slice none 0 0, .slice A ps.length c, .string (partS xs 3).text, .slice (some ⟨nb, 0, none⟩) 1 1]) :
    Made w' cv (((β || decide (xs.length ≤ 3)) || !decide ((partS xs 3).kind = 0)) || decide (xs.length ≤ 4)) (defineO xs.tail) := by
  rcases hP with ⟨rfl, h5, hk, hps, hp3⟩ | ⟨rfl, hd⟩
  · obtain ⟨y, s, x, t, u, rfl⟩ := five_of h5
    show Made w' cv _ ((symN s).bind fun a => (paramsN x).bind fun l => if l.length ≤ 3 then (symN t).map fun b => { noCmd with kind := 4, name := a, params := l, res := b, terms := [u] } else none)
    have es : symN s = some s.text := by unfold symN; exact if_pos hk
    have ep : paramsN x = some ps := hps
    rw [es, Option.bind_some, ep, Option.bind_some, if_pos hp3]
    by_cases hk2 : t.kind = 0
    · rw [show symN t = some t.text by unfold symN; rw [if_pos hk2]]
      refine ⟨by simp [partS, hk2], ?_⟩
      rw [hcv]
      refine ⟨none, 0, none, 0, A, c, some ⟨nb, 0, none⟩, 1, by simp [cmdCells, noCmd, partS], ?_⟩
      exact ⟨.inl rfl, .inl rfl, hl, lies_one (x := u) hn (SexpR.lasts _ _ _ _ hb hr), Nat.le_refl _, Nat.le_refl _, h1, Nat.le_refl _, Nat.zero_le _, Nat.zero_le _, h2, (by decide : 1 ≤ maxLen), (show [u].length * 48 ≤ 140737488351232 by simp), (by decide : (Lit.int .i8 4).wf = true), (show I64 0 from ⟨by decide, by decide⟩), hs1, hs2⟩
    · rw [show symN t = none by unfold symN; rw [if_neg hk2]]
      show _ = true; simp [partS, hk2]
  · rw [hd]
    show _ = true; simp
set_option maxHeartbeats 6400000 in
theorem define_any {W0 w : World} {pb : Nat} {A : Option Addr} {c : Nat} {xs : List Sexp} (h : ParB w pb (.slice A xs.length c) zeroV false) (hx : Lies 3 SexpR W0 A xs) (hb : Below W0.heap.size W0 w) (hp : W0.heap.size ≤ pb) :
    Calls Tryz.prog 27 #[ptrP pb] w (FormPost W0.heap.size w pb (.slice A xs.length c) (defineO xs.tail)) := by
  have HLt := Lib.hid h.lt
  have HK := Lib.hid (kind_any h 4 5)
  have HJ := Lib.hid (fun W cv b (hW : ParB W pb (.slice A xs.length c) cv b) (hB : Below W0.heap.size W0 W) k => part_any hW hx hB k)
  have HS := Lib.hid (fun W cv b (hW : ParB W pb (.slice A xs.length c) cv b) A' c' y => symbol_any hW y A' c')
  have HLs := Lib.hid (fun W cv b (hW : ParB W pb (.slice A xs.length c) cv b) A' c' y hn => list_any hW y A' c' 0 3 hn)
  have HN := Lib.hid (fun W cv b (hW : ParB W pb (.slice A xs.length c) cv b) (hB : Below W0.heap.size W0 W) A' c' y hr => names_any hW y A' c' hr hB hp 2 2)
  have HB := Lib.hid hb
  have HT := Lib.hid (fun k => partS_size hx k)
  clear h hx hb
  unfold ptrP at *
  go_enter Tryz.func27, Tryz.ntmps27
  go_step3
  go_wp2_with fail
  refine HK.out.mono ?_
  rintro e w1 ⟨rfl, h1, k1⟩
  have P1 := Lib.hid h1
  have K1 := Lib.hid k1
  have B1 := Lib.hid (HB.out.trans (keepP_below k1 hp HB.out.size))
  clear h1 k1
  go_wp2_with fail
  refine (HJ.out _ _ _ P1.out B1.out 1).mono ?_
  rintro e w2 ⟨A2, c2, ⟨rfl, r2⟩, h2, k2⟩
  have P2 := Lib.hid h2
  have K2 := Lib.hid (K1.out.trans_same k2)
  clear h2 k2 r2
  go_wp2_with fail
  refine (HS.out _ _ _ P2.out A2 c2 _).mono ?_
  rintro e w3 ⟨rfl, h3, k3⟩
  have f2 := h3.free 2
  have d2 := h3.cell 1 (by omega)
  have P3 := Lib.hid (h3.setCmd 1 (by omega) (.string (partS xs 1).text))
  have K3 := Lib.hid ((K2.out.trans_same k3).setCell (p := ⟨pb, 1 + 1, none⟩) (.inl rfl) (.string (partS xs 1).text))
  have B3 := Lib.hid (HB.out.trans (keepP_below K3.out hp HB.out.size))
  clear h3 k3
  go_wp2_with fail
  go_step3
  go_wp2_with fail
  refine (HJ.out _ _ _ P3.out B3.out 2).mono ?_
  rintro e w4 ⟨A4, c4, ⟨rfl, r4⟩, h4, k4⟩
  have P4 := Lib.hid h4
  have K4 := Lib.hid (K3.out.trans_same k4)
  have R4 := Lib.hid r4
  obtain ⟨_, _, e4, hl4, _, _, _, hlb4, _⟩ := r4.open'
  simp only [List.cons.injEq, Value.slice.injEq, and_true, true_and] at e4
  obtain ⟨rfl, rfl⟩ := e4
  clear h4 k4 r4 d2 f2
  generalize hbb : ((((false || !decide (xs.length = 5)) || decide (xs.length ≤ 1)) || !decide ((partS xs 1).kind = 0)) || decide (xs.length ≤ 2)) = b4 at *
  have HBB := Lib.hid hbb
  clear hbb
  go_wp2_with fail
  refine (HLs.out _ _ _ P4.out A4 c4 _ (by omega)).mono ?_
  rintro e w5 ⟨rfl, h5, k5⟩
  obtain ⟨Av, cw, hV, hlv, hll⟩ : ∃ Av cw, (if b4 || !sized (partS xs 2) 0 3 then .slice none 0 0 else .slice A4 (partS xs 2).l.length c4 : Value) = .slice Av (okL b4 (partS xs 2) 0 3).length cw ∧ Lies 3 SexpR W0 Av (okL b4 (partS xs 2) 0 3) ∧ (okL b4 (partS xs 2) 0 3).length ≤ 4398046511104 := by
    unfold okL
    split
    · exact ⟨none, 0, rfl, .inl rfl, Nat.zero_le _⟩
    · exact ⟨A4, c4, rfl, hl4, by omega⟩
  rw [hV]
  have HL := Lib.hid hlv
  have HLen := Lib.hid hll
  have P5 := Lib.hid h5
  have K5 := Lib.hid (K4.out.trans_same k5)
  have HEnd := Lib.hid (fun ps (h : eachO pairN (okL b4 (partS xs 2) 0 3) = some ps) => defP_end HBB.out.symm h)
  have HBrk := Lib.hid (fun y k ps (h : (okL b4 (partS xs 2) 0 3)[k]? = some y) (hy : pairN y = none) => defP_break (ps := ps) h hy)
  have HMem := Lib.hid (fun y k (h : (okL b4 (partS xs 2) 0 3)[k]? = some y) => (okL_mem h).1)
  clear h5 k5 hV hlv hll hl4 hlb4 R4 HBB
  generalize (okL b4 (partS xs 2) 0 3) = ys at *
  generalize (b4 || !sized (partS xs 2) 0 3) = q at *
  obtain ⟨i0, hi0, z0, z1, z2⟩ := info_parts info_pair
  have I0 := Lib.hid hi0
  have I1 := Lib.hid z0
  have I2 := Lib.hid z1
  have I3 := Lib.hid z2
  clear hi0 z0 z1 z2
  go_wp2_with fail
  go_loopw [20] (fun i' wr => ∃ k : Nat, k ≤ ys.length ∧ i' = .int .i64 k ∧ ∃ (ps : List (ByteArray × ByteArray)) (v' : Value), eachO pairN (ys.take k) = some ps ∧ Grows 2 PairR 56 W0 w.heap.size wr v' ps ∧ ParB wr pb (.slice A xs.length c) (upv (upv (upv zeroV 0 (.int .i8 4)) 1 (.string (partS xs 1).text)) 5 v') q ∧ KeepP pb w wr) (fun i' _ => ys.length - (intOf i').toNat)
  case atStart =>
    refine ⟨0, Nat.zero_le _, rfl, [], .slice none 0 0, rfl, Grows.nil _, ?_, K5.out⟩
    have h := P5.out
    have e : upv (upv (upv zeroV 0 (.int .i8 4)) 1 (.string (partS xs 1).text)) 5 (.slice none 0 0) = upv (upv zeroV 0 (.int .i8 4)) 1 (.string (partS xs 1).text) := by
      funext j
      unfold upv
      by_cases hj : j = 5
      · subst hj; rfl
      · rw [if_neg hj]
    rw [e]; exact h
  case round =>
    obtain ⟨k, hk, rfl, ps, v', heo, hg, hpr, hkp⟩ := hrel
    have HG := Lib.hid hg
    have HPr := Lib.hid hpr
    have HKp := Lib.hid hkp
    have HEo := Lib.hid heo
    obtain ⟨vals, ho, hrr⟩ := hg.row
    have hlk : ps.length = k := by rw [eachO_len heo]; simp; omega
    subst hlk
    have hvl : vals.length = ps.length * 2 := ho.1
    obtain ⟨Ao, co, rfl⟩ := shape_of_owns ho
    have HOw := Lib.hid ho
    have HRr := Lib.hid hrr
    have HVl := Lib.hid hvl
    clear hg hpr ho hrr hvl heo
    by_cases hlt : ps.length < ys.length
    · have hlt2 : (ps.length : Int) < (ys.length : Int) := by omega
      have hyk := List.getElem?_eq_getElem hlt
      generalize ys[ps.length] = y at hyk
      have HQ := HMem.out y _ hyk
      subst HQ
      have HBr := Lib.hid (HB.out.trans (keepP_below hkp hp HB.out.size))
      have hlz := HL.out
      obtain ⟨bb, o, A6, c6, rfl, hbl, e0, e1, e2, hr2⟩ := sexp_cells (HL.out.on SexpR.lasts HBr.out) hyk
      obtain ⟨bb0, o0, A60, c60, hA0, _, _, _, e20, hr0⟩ := sexp_cells HL.out hyk
      obtain ⟨q0, q1, q2, _⟩ := box_cells wr (.int .i8 y.kind) (.string y.text) (.slice A6 y.l.length c6) 25
      have HP2 := Lib.hid (HPr.out.below ((Below.refl _ _).alloc (Nat.le_refl _) (.cells #[.int .i8 y.kind, .string y.text, .slice A6 y.l.length c6] 25)))
      have HK2 := Lib.hid (show KeepP pb wr (wr.alloc (.cells #[.int .i8 y.kind, .string y.text, .slice A6 y.l.length c6] 25)) from (Keeps.refl _ _).alloc _)
      have HSz := Lib.hid hkp.size
      have HYk := Lib.hid hyk
      have HR0 := Lib.hid (show SexpR W0 [.int .i8 y.kind, .string y.text, .slice A6 y.l.length c6] y by
        simp only [Option.some.injEq, Addr.mk.injEq, and_true] at hA0
        obtain ⟨rfl, rfl⟩ := hA0
        have := (HBr.out.cell (p := ⟨bb, o + ps.length * 3 + 2, none⟩) (by assumption)).trans e20
        rw [e2] at this
        simp only [Option.some.injEq, Value.slice.injEq, true_and] at this
        obtain ⟨rfl, rfl⟩ := this
        exact hr0)
      have B6 := Lib.hid (HBr.out.trans (keepP_below HK2.out hp HBr.out.size))
      clear hkp hr2 hyk hr0 hA0 e20
      go_wp2_with fail
      refine (HN.out _ _ _ HP2.out B6.out A6 c6 y HR0.out).mono ?_
      rintro e w6 ⟨A7, c7, ⟨rfl, n1, n2⟩, l7, h7, k7⟩
      have K7 := Lib.hid (HK2.out.trans_same k7)
      have L7 := Lib.hid l7
      have P7 := Lib.hid h7
      have x9 := h7.badc
      have HSzp := Lib.hid HPr.out.lt
      clear h7 k7 l7 q0 q1 q2 e0 e1 e2 n1 n2
      cases hbad : ((false || !sized y 2 2) || (okL false y 2 2).any noSym) with
      | true =>
        rw [hbad] at x9
        have HPN := Lib.hid (HBrk.out y _ ps HYk.out (pairN_bad hbad))
        go_wp2_with fail
        have HPe := Lib.hid (show ParB w6 pb (.slice A xs.length c) (upv (upv (upv zeroV 0 (.int .i8 4)) 1 (.string (partS xs 1).text)) 5 (.slice Ao ps.length co)) true by have h := P7.out; rw [hbad] at h; exact h)
        have HKe := Lib.hid (HKp.out.trans_same K7.out)
        have HGe := Lib.hid (grows_keep HG.out K7.out (fun j hj => by subst hj; exact HLt.out))
        have HNL := Lib.hid (grows_new (n := 2) (t := 56) (w0 := W0) (c := co) pairR_flat HGe.out)
        have HShp := Lib.hid (show ps.length ≤ co ∧ co ≤ maxLen by
          obtain ⟨A9, c9, e, h1, h2⟩ := HGe.out.shape
          simp only [Value.slice.injEq] at e
          obtain ⟨_, _, rfl⟩ := e
          exact ⟨h1, h2⟩)
        have HPP := HPN
        clear x9
        have HT3 := Lib.hid (HT.out 3)
        have hne9 := Lib.hid HPe.out.lt
        have B9 := Lib.hid (HB.out.trans (keepP_below HKe.out hp HB.out.size))
        go_wp2_with fail
        refine (HJ.out _ _ _ HPe.out B9.out 3).mono ?_
        rintro e u1 ⟨A9, c9, ⟨rfl, r9⟩, h9, k9⟩
        have P9 := Lib.hid h9
        have K9 := Lib.hid k9
        clear h9 k9 r9
        go_wp2_with fail
        refine (HS.out _ _ _ P9.out A9 c9 _).mono ?_
        rintro e u2 ⟨rfl, h9, k9⟩
        have K10 := Lib.hid (K9.out.trans_same k9)
        have f7 := h9.free 7
        have d7 := h9.cell 6 (by omega)
        have P10 := Lib.hid (h9.setCmd 6 (by omega) (.string (partS xs 3).text))
        have K11 := Lib.hid (K10.out.setCell (p := ⟨pb, 1 + 6, none⟩) (.inl rfl) (.string (partS xs 3).text))
        have B11 := Lib.hid (HB.out.trans (keepP_below (HKe.out.trans_same K11.out) hp HB.out.size))
        clear h9 k9
        go_wp2_with fail
        refine (HJ.out _ _ _ P10.out B11.out 4).mono ?_
        rintro e u3 ⟨A12, c12, ⟨rfl, r12⟩, h12, k12⟩
        have R12 := Lib.hid r12
        have hne12 : u3.heap.size ≠ pb := by have := h12.lt; omega
        have hple12 : pb ≤ u3.heap.size := by have := h12.lt; omega
        have HP12 := h12.below ((Below.refl _ _).alloc (Nat.le_refl _) (.cells #[.int .i8 (partS xs 4).kind, .string (partS xs 4).text, .slice A12 (partS xs 4).l.length c12] 25))
        have P12 := Lib.hid HP12
        have K12 := Lib.hid (show KeepP pb w6 (u3.alloc (.cells #[.int .i8 (partS xs 4).kind, .string (partS xs 4).text, .slice A12 (partS xs 4).l.length c12] 25)) from (K11.out.trans_same k12).alloc _)
        have f8 := HP12.free 8
        have d8 := HP12.cell 7 (by omega)
        have f8' := h12.free 8
        have d8' := h12.cell 7 (by omega)
        clear h12 k12 r12 HP12 d7 f7
        unfold agS
        go_wp2_with fail
        go_end0
        have KE := K12.out.setCell (p := ⟨pb, 8, none⟩) (.inl rfl) (.slice (some ⟨u3.heap.size, 0, none⟩) 1 1)
        exact ⟨_, _, rfl, P12.out.setCmd 7 (by omega) _, HKe.out.trans_same KE, fun W' hW => define_made HPP.out ((HNL.out.keep pairR_flat KE (fun j hj => by subst hj; exact HLt.out)).keep pairR_flat hW (fun j hj => Nat.lt_trans hj.2 HLt.out)).lies HShp.out.1 HShp.out.2 (HT.out 1) HT3.out R12.out (stay_below (HB.out.trans (keepP_below (HKe.out.trans_same KE) hp HB.out.size)) hW) (stay_blk ((Below.heap_setCell _ _ _ _ hne12).trans (blk_new _ _)) hW hple12) rfl⟩
      | false =>
        rw [hbad] at x9
        obtain ⟨a, b, hok, hpn⟩ := pairN_good hbad
        have HPn := Lib.hid hpn
        have l7 := L7.out
        rw [hok] at l7
        rw [hok]
        have hln : ([a, b] : List Sexp).length = 2 := rfl
        rw [hln]
        have hl7 : Lies 1 StrR w6 A7 [a.text, b.text] := l7.lies
        obtain ⟨bn, on, rfl, c0⟩ := str_get hl7 (k := 0) (by simp)
        obtain ⟨bn', on', e7, c1⟩ := str_get hl7 (k := 1) (by simp)
        simp only [Option.some.injEq, Addr.mk.injEq, and_true] at e7
        obtain ⟨rfl, rfl⟩ := e7
        have hbn : bn < w6.heap.size := by
          rcases hl7 with h | ⟨b', o', h, hlt, _⟩
          · cases h
          · simp only [Option.some.injEq, Addr.mk.injEq, and_true] at h
            rw [h.1]; exact hlt
        have hBn : wr.heap.size ≤ bn := by
          rcases l7 with h | ⟨b', o', h, hge, _, _⟩
          · cases h
          · simp only [Option.some.injEq, Addr.mk.injEq, and_true] at h
            rw [h.1]
            simp at hge; omega
        have HBg := Lib.hid hBn
        have hsa : (a.text.size : Int) ≤ 140737488351232 ∧ (b.text.size : Int) ≤ 140737488351232 := by
          rcases hl7 with h | ⟨b', o', h, hlt, hrow⟩
          · cases h
          · obtain ⟨_, _, _, h1⟩ := hrow 0 a.text rfl
            obtain ⟨_, _, _, h2⟩ := hrow 1 b.text rfl
            exact ⟨h1.2, h2.2⟩
        replace c0 : w6.cell? ⟨bn, on, none⟩ = some (.string a.text) := by simpa using c0
        replace c1 : w6.cell? ⟨bn, on + 1, none⟩ = some (.string b.text) := by simpa using c1
        have HSab := Lib.hid hsa
        have HBn := Lib.hid hbn
        have C0 := Lib.hid c0
        have C1 := Lib.hid c1
        have P7d := Lib.hid (show ParB w6 pb (.slice A xs.length c) (upv (upv (upv zeroV 0 (.int .i8 4)) 1 (.string (partS xs 1).text)) 5 (.slice Ao ps.length co)) false by have h := P7.out; rw [hbad] at h; exact h)
        have HOw7 := Lib.hid (owns_keep HOw.out K7.out (fun j hj => by subst hj; exact HLt.out))
        clear l7 hl7 hpn hok hbad P7 L7 hsa hbn hln hBn
        have pc := P7d.out.cell 5 (by omega)
        have pf := P7d.out.free 6
        go_wp2_with fail
        have PA := Lib.hid (P7d.out.below ((Below.refl w6.heap.size w6).drew.alloc (Nat.le_refl _) (.cells #[.string a.text, .string b.text] 56)))
        have HKA := Lib.hid (show KeepP pb w (w6.drew.alloc (.cells #[.string a.text, .string b.text] 56)) from ((HKp.out.trans_same K7.out).drew).alloc _)
        have HOwA := Lib.hid (show World.ownsRow (w6.drew.alloc (.cells #[.string a.text, .string b.text] 56)) w.heap.size 56 2 (.slice Ao ps.length co) ps.length vals from HOw7.out.drew.alloc _)
        have HCA := Lib.hid (Cells.new w6.drew [.string a.text, .string b.text] 56 (0, 0))
        have HSA := Lib.hid (show w.heap.size ≤ w6.heap.size from Nat.le_trans HSz.out K7.out.size)
        have hk48 : ps.length < 4398046511104 := Nat.lt_of_lt_of_le hlt HLen.out
        refine wp_region_to (by kernel_rfl) (fun W => W.cell? ⟨pb, 6, none⟩ = some (.slice Ao ps.length co) ∧ W.cell? ⟨bn, on, none⟩ = some (.string a.text) ∧ W.cell? ⟨bn, on + 1, none⟩ = some (.string b.text)) 18 (⟨pc, c0, c1⟩) (fun hHeld => ?_)
        clear pc pf
        refine wpTo_take (i := 0) (oi := Oper.mk _ _ _ _ _ _) (v := ?_) rfl (by kernel_rfl) (by kernel_rfl) (by kernel_rfl) (by kernel_rfl) (fun _ _ _ h => h) (Or.inl ⟨by rfl, ?_⟩) (by assumption) ?_
        rotate_left
        · (intro w hSw; (try dsimp only at hSw); go_simp; try with_reducible rfl)
        try simp only [Act.put, List.setIfInBounds_toArray, List.set_cons_zero, List.set_cons_succ]
        refine wpTo_take (i := 1) (oi := Oper.mk _ _ _ _ _ _) (v := ?_) rfl (by kernel_rfl) (by kernel_rfl) (by kernel_rfl) (by kernel_rfl) (fun _ _ _ h => h) (Or.inl ⟨by rfl, ?_⟩) (by assumption) ?_
        rotate_left
        · (intro w hSw; (try dsimp only at hSw); go_simp; try with_reducible rfl)
        try simp only [Act.put, List.setIfInBounds_toArray, List.set_cons_zero, List.set_cons_succ]
        refine wpTo_take (i := 2) (oi := Oper.mk _ _ _ _ _ _) (v := ?_) rfl (by kernel_rfl) (by kernel_rfl) (by kernel_rfl) (by kernel_rfl) (fun _ _ _ h => h) (Or.inl ⟨by rfl, ?_⟩) (by assumption) ?_
        rotate_left
        · (intro w hSw; (try dsimp only at hSw); go_simp; try with_reducible rfl)
        try simp only [Act.put, List.setIfInBounds_toArray, List.set_cons_zero, List.set_cons_succ]
        refine wpTo_take (i := 3) (oi := Oper.mk _ _ _ _ _ _) (v := ?_) rfl (by kernel_rfl) (by kernel_rfl) (by kernel_rfl) (by kernel_rfl) (fun _ _ _ h => h) (Or.inl ⟨by rfl, ?_⟩) (by assumption) ?_
        rotate_left
        · (intro w hSw; (try dsimp only at hSw); go_simp; try with_reducible rfl)
        try simp only [Act.put, List.setIfInBounds_toArray, List.set_cons_zero, List.set_cons_succ]
        refine wpTo_take (i := 4) (oi := Oper.mk _ _ _ _ _ _) (v := ?_) rfl (by kernel_rfl) (by kernel_rfl) (by kernel_rfl) (by kernel_rfl) (fun _ _ _ h => h) (Or.inl ⟨by rfl, ?_⟩) (by assumption) ?_
        rotate_left
        · (intro w hSw; (try dsimp only at hSw); go_simp; try with_reducible rfl)
        try simp only [Act.put, List.setIfInBounds_toArray, List.set_cons_zero, List.set_cons_succ]
        refine wpTo_take (i := 5) (oi := Oper.mk _ _ _ _ _ _) (v := ?_) rfl (by kernel_rfl) (by kernel_rfl) (by kernel_rfl) (by kernel_rfl) (fun _ _ _ h => h) (Or.inl ⟨by rfl, ?_⟩) (by assumption) ?_
        rotate_left
        · (intro w hSw; (try dsimp only at hSw); go_simp; try with_reducible rfl)
        try simp only [Act.put, List.setIfInBounds_toArray, List.set_cons_zero, List.set_cons_succ]
        refine wpTo_take (i := 6) (oi := Oper.mk _ _ _ _ _ _) (v := ?_) rfl (by kernel_rfl) (by kernel_rfl) (by kernel_rfl) (by kernel_rfl) (fun _ _ _ h => h) (Or.inl ⟨by rfl, ?_⟩) (by assumption) ?_
        rotate_left
        · (intro w hSw; (try dsimp only at hSw); go_simp; try with_reducible rfl)
        try simp only [Act.put, List.setIfInBounds_toArray, List.set_cons_zero, List.set_cons_succ]
        refine wpTo_take (i := 7) (oi := Oper.mk _ _ _ _ _ _) (v := ?_) rfl (by kernel_rfl) (by kernel_rfl) (by kernel_rfl) (by kernel_rfl) (fun _ _ _ h => h) (Or.inl ⟨by rfl, ?_⟩) (by assumption) ?_
        rotate_left
        · (intro w hSw; (try dsimp only at hSw); go_simp; try with_reducible rfl)
        try simp only [Act.put, List.setIfInBounds_toArray, List.set_cons_zero, List.set_cons_succ]
        refine wpTo_take (i := 8) (oi := Oper.mk _ _ _ _ _ _) (v := ?_) rfl (by kernel_rfl) (by kernel_rfl) (by kernel_rfl) (by kernel_rfl) (fun _ _ _ h => h) (Or.inl ⟨by rfl, ?_⟩) (by assumption) ?_
        rotate_left
        · (intro w hSw; (try dsimp only at hSw); go_simp; try with_reducible rfl)
        try simp only [Act.put, List.setIfInBounds_toArray, List.set_cons_zero, List.set_cons_succ]
        refine wpTo_take (i := 9) (oi := Oper.mk _ _ _ _ _ _) (v := ?_) rfl (by kernel_rfl) (by kernel_rfl) (by kernel_rfl) (by kernel_rfl) (fun _ _ _ h => h) (Or.inl ⟨by rfl, ?_⟩) (by assumption) ?_
        rotate_left
        · (intro w hSw; (try dsimp only at hSw); go_simp; try with_reducible rfl)
        try simp only [Act.put, List.setIfInBounds_toArray, List.set_cons_zero, List.set_cons_succ]
        refine wpTo_take (i := 10) (oi := Oper.mk _ _ _ _ _ _) (v := ?_) rfl (by kernel_rfl) (by kernel_rfl) (by kernel_rfl) (by kernel_rfl) (fun _ _ _ h => h) (Or.inl ⟨by rfl, ?_⟩) (by assumption) ?_
        rotate_left
        · (intro w hSw; (try dsimp only at hSw); go_simp; try with_reducible rfl)
        try simp only [Act.put, List.setIfInBounds_toArray, List.set_cons_zero, List.set_cons_succ]
        refine wpTo_take (i := 11) (oi := Oper.mk _ _ _ _ _ _) (v := ?_) rfl (by kernel_rfl) (by kernel_rfl) (by kernel_rfl) (by kernel_rfl) (fun _ _ _ h => h) (Or.inl ⟨by rfl, ?_⟩) (by assumption) ?_
        rotate_left
        · (intro w hSw; (try dsimp only at hSw); go_simp; try with_reducible rfl)
        try simp only [Act.put, List.setIfInBounds_toArray, List.set_cons_zero, List.set_cons_succ]
        refine wpTo_take (i := 12) (oi := Oper.mk _ _ _ _ _ _) (v := ?_) rfl (by kernel_rfl) (by kernel_rfl) (by kernel_rfl) (by kernel_rfl) (fun _ _ _ h => h) (Or.inl ⟨by rfl, ?_⟩) (by assumption) ?_
        rotate_left
        · (intro w hSw; (try dsimp only at hSw); go_simp; try with_reducible rfl)
        try simp only [Act.put, List.setIfInBounds_toArray, List.set_cons_zero, List.set_cons_succ]
        refine wpTo_step (i := 13) (o := Oper.mk _ _ _ _ _ _) (by kernel_rfl) rfl (fun K hK => ?_)
        go_simp
        refine hK.out _ _ (⟨PA.out.cell 5 (by omega), (((Below.refl w6.heap.size w6).drew.alloc (Nat.le_refl _) _).cell (p := ⟨bn, on, none⟩) HBn.out).trans C0.out, (((Below.refl w6.heap.size w6).drew.alloc (Nat.le_refl _) _).cell (p := ⟨bn, on + 1, none⟩) HBn.out).trans C1.out⟩) (fun hHeld => ?_)
        clear hK K
        try simp only [Act.put, List.setIfInBounds_toArray, List.set_cons_zero, List.set_cons_succ]
        refine wpTo_step (i := 14) (o := Oper.mk _ _ _ _ _ _) (by kernel_rfl) rfl (fun K hK => ?_)
        (refine step_append_at (by rfl) _ _ _ (by rfl) w.heap.size 56 i0 (.agg #[.string { data := #[] }, .string { data := #[] }]) 2 32 Tryz.underlying30 I0.out I1.out I2.out I3.out rfl (by decide) (.slice Ao ps.length co) ps.length vals (by rfl) HOwA.out (some ⟨w6.heap.size, 0, none⟩) 1 1 [.string a.text, .string b.text] (by rfl) rfl HCA.out (by simp [Value.oneCell']) (by unfold maxLen; omega) (by omega) (by have := HSA.out; simp; omega) ?_; intro v' w8 hown hgr hat; obtain ⟨A8, c8, rfl⟩ := shape_of_owns hown; have P8 := Lib.hid (PA.out.grown hgr (fun e => by have := (HOwA.out.lt pb e).1; have := HLt.out; omega)); have hcb : ∀ j, w8.cell? ⟨bn, j, none⟩ = w6.cell? ⟨bn, j, none⟩ := fun j => (World.cell?_of_block (hgr.block bn (by have := HBn.out; simp; omega) (fun e => by have h1 := (HOw.out.lt bn e.symm).2; have h2 := HBg.out; omega))).trans (((Below.refl w6.heap.size w6).drew.alloc (Nat.le_refl _) _).cell (p := ⟨bn, j, none⟩) HBn.out))
        refine hK.out _ _ (⟨P8.out.cell 5 (by omega), (hcb _).trans C0.out, (hcb _).trans C1.out⟩) (fun hHeld => ?_)
        clear hK K
        try simp only [Act.put, List.setIfInBounds_toArray, List.set_cons_zero, List.set_cons_succ]
        have HG8 := Lib.hid (show Grows 2 PairR 56 W0 w.heap.size w8 (.slice A8 (ps.length + 1) c8) (ps ++ [(a.text, b.text)]) from
          Grows.push (vs := [.string a.text, .string b.text]) HVl.out HRr.out hown ⟨rfl, HSab.out⟩ rfl)
        have HK8 := Lib.hid (show KeepP pb w w8 from HKA.out.grown hgr (fun j hj => .inr (HOwA.out.lt j hj).1))
        clear hown hgr hat hcb
        refine wpTo_step (i := 15) (o := Oper.mk _ _ _ _ _ _) (by kernel_rfl) rfl (fun K hK => ?_)
        go_simp
        refine hK.out _ _ ((by assumption)) (fun hHeld => ?_)
        clear hK K
        try simp only [Act.put, List.setIfInBounds_toArray, List.set_cons_zero, List.set_cons_succ]
        refine wpTo_step (i := 16) (o := Oper.mk _ _ _ _ _ _) (by kernel_rfl) rfl (fun K hK => ?_)
        go_simp
        refine hK.out _ _ ((by assumption)) (fun hHeld => ?_)
        clear hK K
        try simp only [Act.put, List.setIfInBounds_toArray, List.set_cons_zero, List.set_cons_succ]
        refine wpTo_step (i := 17) (o := Oper.mk _ _ _ _ _ _) (by kernel_rfl) rfl (fun K hK => ?_)
        go_simp
        refine hK.out _ _ ((by assumption)) (fun hHeld => ?_)
        clear hK K
        try simp only [Act.put, List.setIfInBounds_toArray, List.set_cons_zero, List.set_cons_succ]
        have pf := P8.out.free 6
        have pc := P8.out.cell 5 (by omega)
        refine wpTo_last (o := Oper.mk _ _ _ _ _ _) (by kernel_rfl) rfl (fun K hK => ?_)
        go_simp
        refine hK.out _ _ ?_
        clear hK K
        try simp only [Act.put, List.setIfInBounds_toArray, List.set_cons_zero, List.set_cons_succ]
        refine wpTo_done (by kernel_rfl) ?_ _
        clear hHeld pf pc
        go_wp2_with fail
        have HP9 := Lib.hid (P8.out.setCmd 5 (by omega) (.slice A8 (ps.length + 1) c8))
        have HK9 := Lib.hid (HK8.out.setCell (p := ⟨pb, 1 + 5, none⟩) (.inl rfl) (.slice A8 (ps.length + 1) c8))
        have HG9 := Lib.hid (HG8.out.setCell (p := ⟨pb, 1 + 5, none⟩) (.slice A8 (ps.length + 1) c8) HLt.out)
        have HEn := Lib.hid (show eachO pairN (ys.take (ps.length + 1)) = some (ps ++ [(a.text, b.text)]) by
          rw [List.take_add_one, HYk.out]
          show eachO pairN (ys.take ps.length ++ [y]) = _
          rw [eachO_snoc y HEo.out, HPn.out]
          rfl)
        go_roundw
        case rel => exact ⟨ps.length + 1, by omega, by go_num, ps ++ [(a.text, b.text)], .slice A8 (ps.length + 1) c8, HEn.out, HG9.out, by rw [upv_upv] at HP9; exact HP9.out, HK9.out⟩
        case measure => simp [intOf]; omega
    · obtain hle : ps.length = ys.length := by omega
      have HPP := Lib.hid (HEnd.out ps (by have h := HEo.out; rw [hle, List.take_length] at h; exact h))
      have HPe := HPr
      have HKe := HKp
      have HNL := Lib.hid (grows_new (n := 2) (t := 56) (w0 := W0) (c := co) pairR_flat HG.out)
      have HShp := Lib.hid (show ps.length ≤ co ∧ co ≤ maxLen by
        obtain ⟨A9, c9, e, h1, h2⟩ := HG.out.shape
        simp only [Value.slice.injEq] at e
        obtain ⟨_, _, rfl⟩ := e
        exact ⟨h1, h2⟩)
      clear hkp
      go_wp2_with fail
      have HT3 := Lib.hid (HT.out 3)
      have hne9 := Lib.hid HPe.out.lt
      have B9 := Lib.hid (HB.out.trans (keepP_below HKe.out hp HB.out.size))
      go_wp2_with fail
      refine (HJ.out _ _ _ HPe.out B9.out 3).mono ?_
      rintro e u1 ⟨A9, c9, ⟨rfl, r9⟩, h9, k9⟩
      have P9 := Lib.hid h9
      have K9 := Lib.hid k9
      clear h9 k9 r9
      go_wp2_with fail
      refine (HS.out _ _ _ P9.out A9 c9 _).mono ?_
      rintro e u2 ⟨rfl, h9, k9⟩
      have K10 := Lib.hid (K9.out.trans_same k9)
      have f7 := h9.free 7
      have d7 := h9.cell 6 (by omega)
      have P10 := Lib.hid (h9.setCmd 6 (by omega) (.string (partS xs 3).text))
      have K11 := Lib.hid (K10.out.setCell (p := ⟨pb, 1 + 6, none⟩) (.inl rfl) (.string (partS xs 3).text))
      have B11 := Lib.hid (HB.out.trans (keepP_below (HKe.out.trans_same K11.out) hp HB.out.size))
      clear h9 k9
      go_wp2_with fail
      refine (HJ.out _ _ _ P10.out B11.out 4).mono ?_
      rintro e u3 ⟨A12, c12, ⟨rfl, r12⟩, h12, k12⟩
      have R12 := Lib.hid r12
      have hne12 : u3.heap.size ≠ pb := by have := h12.lt; omega
      have hple12 : pb ≤ u3.heap.size := by have := h12.lt; omega
      have HP12 := h12.below ((Below.refl _ _).alloc (Nat.le_refl _) (.cells #[.int .i8 (partS xs 4).kind, .string (partS xs 4).text, .slice A12 (partS xs 4).l.length c12] 25))
      have P12 := Lib.hid HP12
      have K12 := Lib.hid (show KeepP pb wr (u3.alloc (.cells #[.int .i8 (partS xs 4).kind, .string (partS xs 4).text, .slice A12 (partS xs 4).l.length c12] 25)) from (K11.out.trans_same k12).alloc _)
      have f8 := HP12.free 8
      have d8 := HP12.cell 7 (by omega)
      have f8' := h12.free 8
      have d8' := h12.cell 7 (by omega)
      clear h12 k12 r12 HP12 d7 f7
      unfold agS
      go_wp2_with fail
      go_end0
      have KE := K12.out.setCell (p := ⟨pb, 8, none⟩) (.inl rfl) (.slice (some ⟨u3.heap.size, 0, none⟩) 1 1)
      exact ⟨_, _, rfl, P12.out.setCmd 7 (by omega) _, HKe.out.trans_same KE, fun W' hW => define_made HPP.out ((HNL.out.keep pairR_flat KE (fun j hj => by subst hj; exact HLt.out)).keep pairR_flat hW (fun j hj => Nat.lt_trans hj.2 HLt.out)).lies HShp.out.1 HShp.out.2 (HT.out 1) HT3.out R12.out (stay_below (HB.out.trans (keepP_below (HKe.out.trans_same KE) hp HB.out.size)) hW) (stay_blk ((Below.heap_setCell _ _ _ _ hne12).trans (blk_new _ _)) hW hple12) rfl⟩
end Go.Proofs.YtbchcipjpcdhfaaGreatDoor.Cm
