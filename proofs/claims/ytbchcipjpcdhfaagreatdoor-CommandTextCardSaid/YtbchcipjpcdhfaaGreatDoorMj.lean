import Derived.Test.YtbchcipjpcdhfaaGreatDoorMi
import Derived.Test.YtbchcipjpcdhfaaGreatDoorMb
import Derived.Maps.OwnSet
import Derived.Maps.Views
import Derived.Maps.Keyed
import Derived.MapViews
import Derived.DeepKeys4
import Derived.Test.YtbchcipjpcdhfaaGreatDoorMe
import Derived.Deep.Cut
/- merged by wip/merge.py from: CmdOption Maps KeyMap SexpHead -/
/- The form set-option. -/
namespace Go.Proofs.YtbchcipjpcdhfaaGreatDoor.Cm
open Go.RowKit Go.Proofs.YtbchcipjpcdhfaaGreatDoor.Dt

theorem tl_true {t : ByteArray} {l : List UInt8} (h : t = ⟨l.toArray⟩) : (t.toList == l) = true := by
  rw [h, Lx.bs_toList]; unfold Lx.bs; simp
theorem tl_false {t : ByteArray} {l : List UInt8} (h : t ≠ ⟨l.toArray⟩) : (t.toList == l) = false := by
  rw [beq_eq_false_iff_ne]
  intro e
  rw [Lx.bs_toList] at e
  unfold Lx.bs at e
  exact h (ByteArray.ext (Array.toList_inj.1 (by rw [e])))
theorem blk_keep {w w' : World} {pb b : Nat} {o : Obj} (h : w.heap[b]? = some o) (hk : KeepP pb w w') (hne : b ≠ pb) : w'.heap[b]? = some o := (hk.block b (lt_of_block h) hne).trans h
def numV (y : Sexp) : Int := parseV (Lx.bs y.text)
def noNum (y : Sexp) : Bool := (smallN y 1048576).isNone
theorem eachO_num : ∀ l : List Sexp, eachO (fun y => smallN y 1048576) l = if l.any noNum then none else some (l.map numV)
  | [] => rfl
  | y :: l => by
    unfold eachO
    rw [eachO_num l, List.any_cons]
    cases h : smallN y 1048576 with
    | none => rw [show noNum y = true by unfold noNum; rw [h]; rfl]; rfl
    | some n =>
      rw [show noNum y = false by unfold noNum; rw [h]; rfl, Bool.false_or, show n = numV y from (small_some h).1]
      split <;> rfl
theorem optionO_not {r : List Sexp} (h : r.length ≠ 2) : optionO r = none := by
  unfold optionO
  split
  · exact absurd rfl h
  · rfl
def optB (xs : List Sexp) : Bool := ((((false || !decide (xs.length = 3)) || decide (xs.length ≤ 1)) || decide (xs.length ≤ 2)) || !decide ((partS xs 1).kind = 2))
theorem optionO_bad {xs : List Sexp} (h : optB xs = true) : optionO xs.tail = none := by
  by_cases h3 : xs.length = 3
  · obtain ⟨y, k, x, rfl⟩ := three_of h3
    have hk : ¬ k.kind = 2 := fun e => by unfold optB at h; simp [partS, e] at h
    show (if k.kind = 2 then _ else none) = none
    rw [if_neg hk]
  · exact optionO_not (by rw [List.length_tail]; omega)
theorem optionO_good {xs : List Sexp} (h : optB xs = false) : ∃ y k x, xs = [y, k, x] ∧ optionO xs.tail = (if k.text = sBudget then (smallN x 1048576).map fun n => { noCmd with kind := 1, name := k.text, n := n }
      else if k.text = sSeeds then (seedsN x).map fun l => { noCmd with kind := 1, name := k.text, l := l } else none) := by
  have h3 : xs.length = 3 := by
    by_cases h3 : xs.length = 3
    · exact h3
    · unfold optB at h; simp [h3] at h
  obtain ⟨y, k, x, rfl⟩ := three_of h3
  have hk : k.kind = 2 := by
    by_cases hk : k.kind = 2
    · exact hk
    · unfold optB at h; simp [partS, hk] at h
  refine ⟨y, k, x, rfl, ?_⟩
  show (if k.kind = 2 then _ else none) = _
  rw [if_pos hk]
theorem opt_budget {w' : World} {xs : List Sexp} {cv : Nat → Value} (hs : (partS xs 1).text = sBudget)
    (hcv : cells8 cv = [.int .i8 1, .string (partS xs 1).text, .int .i64 (numV (partS xs 2)), .slice none 0 0, .slice none 0 0, .slice none 0 0, .string noS, .slice none 0 0]) :
    Made w' cv (optB xs || (smallN (partS xs 2) 1048576).isNone) (optionO xs.tail) := by
  cases hb : optB xs with
  | true => rw [optionO_bad hb]; show _ = true; simp
  | false =>
    obtain ⟨y, k, x, rfl, e⟩ := optionO_good hb
    rw [e, if_pos (show k.text = sBudget from hs)]
    have e2 : partS [y, k, x] 2 = x := rfl
    have e1 : partS [y, k, x] 1 = k := rfl
    rw [e2, e1] at hcv
    rw [e2]
    rw [e1] at hs
    cases hn : smallN x 1048576 with
    | none => show _ = true; rfl
    | some n =>
      obtain ⟨q1, q2, q3⟩ := small_some hn
      refine ⟨rfl, ?_⟩
      rw [hcv, show numV x = n from q1.symm]
      exact cmdR_zero w' { noCmd with kind := 1, name := k.text, n := n } rfl rfl rfl rfl (show (Lit.int .i8 1).wf = true by decide) (show I64 n from ⟨by omega, by omega⟩) (show ((k.text.size : Nat) : Int) ≤ 140737488351232 by rw [hs]; decide) (show ((noS.size : Nat) : Int) ≤ 140737488351232 by decide)
theorem opt_seeds {w' : World} {A : Option Addr} {c : Nat} {xs : List Sexp} {cv : Nat → Value} (hn : (partS xs 1).text ≠ sBudget) (hs : (partS xs 1).text = sSeeds)
    (hl : Lies 1 (One (Value.int .i64)) w' A ((okL (optB xs) (partS xs 2) 0 64).map numV)) (h1 : (okL (optB xs) (partS xs 2) 0 64).length ≤ c) (h2 : c ≤ maxLen)
    (hcv : cells8 cv = [.int .i8 1, .string (partS xs 1).text, .int .i64 0, .slice A (okL (optB xs) (partS xs 2) 0 64).length c, .slice none 0 0, .slice none 0 0, .string noS, .slice none 0 0]) :
    Made w' cv ((optB xs || !sized (partS xs 2) 0 64) || (okL (optB xs) (partS xs 2) 0 64).any noNum) (optionO xs.tail) := by
  cases hb : optB xs with
  | true => rw [optionO_bad hb]; show _ = true; simp
  | false =>
    rw [hb] at hl h1 hcv
    obtain ⟨y, k, x, rfl, e⟩ := optionO_good hb
    rw [e, if_neg (show k.text ≠ sBudget from hn), if_pos (show k.text = sSeeds from hs)]
    have e2 : partS [y, k, x] 2 = x := rfl
    have e1 : partS [y, k, x] 1 = k := rfl
    rw [e2, e1] at hcv
    rw [e2] at hl h1 ⊢
    rw [e1] at hs
    unfold seedsN listN
    by_cases h3 : x.kind = 3
    · rw [if_pos h3, Option.bind_some]
      by_cases h64 : x.l.length ≤ 64
      · have hz : sized x 0 64 = true := by unfold sized; simp [h3, h64]
        have ho : okL false x 0 64 = x.l := by unfold okL; rw [hz]; rfl
        rw [ho] at hl h1 hcv ⊢
        rw [hz, if_pos h64, eachO_num]
        cases ha : x.l.any noNum with
        | true => show _ = true; simp
        | false =>
          refine ⟨rfl, ?_⟩
          rw [hcv]
          have hli : Lies 1 (IntR .i64) w' A (x.l.map numV) := hl.imp rfl (fun i a b vs ha1 hb1 hr => by
            rw [ha1] at hb1
            obtain rfl := Option.some.inj hb1
            refine ⟨hr, ?_⟩
            obtain ⟨z, hz1, rfl⟩ := List.mem_map.1 (List.mem_of_getElem? ha1)
            have hzn : noNum z = false := by
              cases hq : noNum z with
              | false => rfl
              | true => rw [List.any_eq_true.2 ⟨z, hz1, hq⟩] at ha; cases ha
            unfold noNum at hzn
            obtain ⟨n, hn⟩ : ∃ n, smallN z 1048576 = some n := by
              cases h : smallN z 1048576 with
              | none => rw [h] at hzn; cases hzn
              | some n => exact ⟨n, rfl⟩
            obtain ⟨q1, q2, q3⟩ := small_some hn
            exact WalkArith.wf_i64 (show I64 (numV z) from ⟨by unfold numV; omega, by unfold numV; omega⟩))
          refine ⟨A, c, none, 0, none, 0, none, 0, by simp [cmdCells, noCmd], ?_⟩
          exact ⟨hli, .inl rfl, .inl rfl, .inl rfl, by simpa using h1, Nat.le_refl _, Nat.le_refl _, Nat.le_refl _, h2, Nat.zero_le _, Nat.zero_le _, Nat.zero_le _, Nat.zero_le _, (by decide : (Lit.int .i8 1).wf = true), (show I64 0 from ⟨by decide, by decide⟩), (show ((k.text.size : Nat) : Int) ≤ 140737488351232 by rw [hs]; decide), (show ((noS.size : Nat) : Int) ≤ 140737488351232 by decide)⟩
      · have hz : sized x 0 64 = false := by unfold sized; simp [h64]
        rw [if_neg h64, hz]
        show _ = true; simp
    · have hz : sized x 0 64 = false := by unfold sized; simp [h3]
      rw [if_neg h3, hz]
      show _ = true; simp
theorem opt_other {w' : World} {xs : List Sexp} {cv : Nat → Value} (hn : (partS xs 1).text ≠ sBudget) (hs : (partS xs 1).text ≠ sSeeds) : Made w' cv true (optionO xs.tail) := by
  have e : optionO xs.tail = none := by
    cases hb : optB xs with
    | true => exact optionO_bad hb
    | false =>
      obtain ⟨y, k, x, rfl, e⟩ := optionO_good hb
      rw [e, if_neg (show k.text ≠ sBudget from hn), if_neg (show k.text ≠ sSeeds from hs)]
  rw [e]
  exact (rfl : true = true)
set_option maxHeartbeats 6400000 in
theorem option_any {W0 w : World} {pb : Nat} {A : Option Addr} {c : Nat} {xs : List Sexp} (h : ParB w pb (.slice A xs.length c) zeroV false) (hx : Lies 3 SexpR W0 A xs) (hb : Below W0.heap.size W0 w) (hp : W0.heap.size ≤ pb) :
    Calls Tryz.prog 24 #[ptrP pb] w (FormPost W0.heap.size w pb (.slice A xs.length c) (optionO xs.tail)) := by
  have HLt := Lib.hid h.lt
  have HK := Lib.hid (kind_any h 1 3)
  have HJ := Lib.hid (fun W cv b (hW : ParB W pb (.slice A xs.length c) cv b) (hB : Below W0.heap.size W0 W) k => part_any hW hx hB k)
  have HI := Lib.hid (fun W cv b (hW : ParB W pb (.slice A xs.length c) cv b) q => is_any hW q)
  have HLs := Lib.hid (fun W cv b (hW : ParB W pb (.slice A xs.length c) cv b) A' c' y hn => list_any hW y A' c' 0 64 hn)
  have HNu := Lib.hid (fun W cv b (hW : ParB W pb (.slice A xs.length c) cv b) A' c' y ht => number_any hW y A' c' ht 1048576)
  have HB := Lib.hid hb
  have HT := Lib.hid (fun k => partS_size hx k)
  clear h hx hb
  unfold ptrP at *
  go_enter Tryz.func24, Tryz.ntmps24
  go_wp2_with fail
  refine HK.out.mono ?_
  rintro e w1 ⟨rfl, h1, k1⟩
  have P1 := Lib.hid h1
  have K1 := Lib.hid k1
  have B1 := Lib.hid (HB.out.trans (keepP_below k1 hp HB.out.size))
  clear h1 k1
  go_wp2_with fail
  refine (HJ.out _ _ _ P1.out B1.out 1).mono ?_
  rintro e w2 ⟨A2, c2, ⟨rfl, r2⟩, h2, k2⟩
  have P2 := Lib.hid h2
  have K2 := Lib.hid (K1.out.trans_same k2)
  have B2 := Lib.hid (HB.out.trans (keepP_below K2.out hp HB.out.size))
  clear h2 k2 r2
  go_wp2_with fail
  refine (HJ.out _ _ _ P2.out B2.out 2).mono ?_
  rintro e w3 ⟨A3, c3, ⟨rfl, r3⟩, h3, k3⟩
  have P3 := Lib.hid h3
  have K3 := Lib.hid (K2.out.trans_same k3)
  have R3 := Lib.hid r3
  clear h3 k3 r3
  generalize hky : partS xs 1 = ky at *
  generalize hx2 : partS xs 2 = x2 at *
  unfold agS
  go_upto_region 2 with fail
  have HP4 := (P3.out.below ((Below.refl _ _).alloc (Nat.le_refl _) (.cells #[.int .i8 ky.kind, .string ky.text, .slice A2 ky.l.length c2] 25)))
  have P4 := Lib.hid (HP4.below ((Below.refl _ _).alloc (Nat.le_refl _) (.cells #[.int .i8 x2.kind, .string x2.text, .slice A3 x2.l.length c3] 25)))
  have K4 := Lib.hid ((K3.out.alloc (.cells #[.int .i8 ky.kind, .string ky.text, .slice A2 ky.l.length c2] 25)).alloc (.cells #[.int .i8 x2.kind, .string x2.text, .slice A3 x2.l.length c3] 25))
  have X4 := Lib.hid (show ((w3.alloc (.cells #[.int .i8 ky.kind, .string ky.text, .slice A2 ky.l.length c2] 25)).alloc (.cells #[.int .i8 x2.kind, .string x2.text, .slice A3 x2.l.length c3] 25)).heap[w3.heap.size]? = _ from (Below.heap_alloc _ _ _ (by simp)).trans (blk_new w3 (.cells #[.int .i8 ky.kind, .string ky.text, .slice A2 ky.l.length c2] 25)))
  have Y4 := Lib.hid (show ((w3.alloc (.cells #[.int .i8 ky.kind, .string ky.text, .slice A2 ky.l.length c2] 25)).alloc (.cells #[.int .i8 x2.kind, .string x2.text, .slice A3 x2.l.length c3] 25)).heap[w3.heap.size + 1]? = some (.cells #[.int .i8 x2.kind, .string x2.text, .slice A3 x2.l.length c3] 25 (0, 0)) from by
    have h := blk_new (w3.alloc (.cells #[.int .i8 ky.kind, .string ky.text, .slice A2 ky.l.length c2] 25)) (.cells #[.int .i8 x2.kind, .string x2.text, .slice A3 x2.l.length c3] 25)
    have e : (w3.alloc (.cells #[.int .i8 ky.kind, .string ky.text, .slice A2 ky.l.length c2] 25)).heap.size = w3.heap.size + 1 := by simp
    rw [e] at h; exact h)
  have HNe := Lib.hid (show pb < w3.heap.size from P3.out.lt)
  clear HP4
  generalize ((w3.alloc (.cells #[.int .i8 ky.kind, .string ky.text, .slice A2 ky.l.length c2] 25)).alloc (.cells #[.int .i8 x2.kind, .string x2.text, .slice A3 x2.l.length c3] 25)) = w4 at *
  generalize w3.heap.size = n3 at *
  obtain ⟨y0, y1, y2, yf⟩ := three_cells X4.out
  have hk2 : (ky.kind == 2) = decide (ky.kind = 2) := rfl
  go_wp2_with fail
  refine (HI.out _ _ _ P4.out (decide (ky.kind = 2))).mono ?_
  rintro e w5 ⟨rfl, h5, k5⟩
  have K5 := Lib.hid (K4.out.trans_same k5)
  have X5 := Lib.hid (blk_keep X4.out k5 (by have := HNe.out; omega))
  have Y5 := Lib.hid (blk_keep Y4.out k5 (by have := HNe.out; omega))
  have f2 := h5.free 2
  have d2 := h5.cell 1 (by omega)
  have P6 := Lib.hid (h5.setCmd 1 (by omega) (.string ky.text))
  have K6 := Lib.hid (K5.out.setCell (p := ⟨pb, 1 + 1, none⟩) (.inl rfl) (.string ky.text))
  have X6 := Lib.hid ((Below.heap_setCell w5 ⟨pb, 1 + 1, none⟩ (.string ky.text) n3 (by have := HNe.out; show n3 ≠ pb; omega)).trans X5.out)
  have Y6 := Lib.hid ((Below.heap_setCell w5 ⟨pb, 1 + 1, none⟩ (.string ky.text) (n3 + 1) (by have := HNe.out; show n3 + 1 ≠ pb; omega)).trans Y5.out)
  clear h5 k5 y0 y1 y2 yf hk2
  obtain ⟨y0, y1, y2, yf⟩ := three_cells X5.out
  have HOB := Lib.hid (show ((((false || !decide (xs.length = 3)) || decide (xs.length ≤ 1)) || decide (xs.length ≤ 2)) || !decide (ky.kind = 2)) = optB xs by unfold optB; rw [hky])
  rw [HOB.out] at P6
  go_upto_region 4 with fail
  change Code.wp _ _ _ _ (w5.setCell ⟨pb, 1 + 1, none⟩ (.string ky.text))
  generalize w5.setCell ⟨pb, 1 + 1, none⟩ (.string ky.text) = w6 at *
  clear d2 f2 y0 y1 y2 yf X4 Y4 P4 K4
  obtain ⟨y0, y1, y2, yf⟩ := three_cells X6.out
  by_cases hB : ky.text = sBudget
  · have hB' : (ky.text.toList == [98, 117, 100, 103, 101, 116]) = true := tl_true hB
    have hTy := Lib.hid (show ((x2.text.size : Nat) : Int) ≤ 140737488351232 by have := HT.out 2; rw [hx2] at this; exact this)
    have HE := Lib.hid (fun w' cv => opt_budget (w' := w') (xs := xs) (cv := cv) (by rw [hky]; exact hB))
    clear y0 y1 y2 yf hB
    obtain ⟨u0, u1, u2, uf⟩ := three_cells Y6.out
    obtain ⟨y0, y1, y2, yf⟩ := three_cells X6.out
    go_wp2_with fail
    refine (HNu.out _ _ _ P6.out A3 c3 x2 hTy.out).mono ?_
    rintro e w7 ⟨rfl, h7, k7⟩
    have P7 := Lib.hid h7
    have K7 := Lib.hid (K6.out.trans_same k7)
    have f3 := h7.free 3
    have d3 := h7.cell 2 (by omega)
    clear h7 k7 u0 u1 u2 uf y0 y1 y2 yf
    rw [hx2, hky] at HE
    go_wp2_with fail
    go_end0
    exact ⟨_, _, rfl, P7.out.setCmd 2 (by omega) _, K7.out.setCell (.inl rfl) _, fun W' _ => HE.out W' _ rfl⟩
  · have hB' : (ky.text.toList == [98, 117, 100, 103, 101, 116]) = false := tl_false hB
    by_cases hS : ky.text = sSeeds
    · have hS' : (ky.text.toList == [115, 101, 101, 100, 115]) = true := tl_true hS
      have HE := Lib.hid (fun w' A c cv hl h1 h2 => opt_seeds (w' := w') (xs := xs) (A := A) (c := c) (cv := cv) (by rw [hky]; exact hB) (by rw [hky]; exact hS) hl h1 h2)
      rw [hky, hx2] at HE
      obtain ⟨_, _, e4, hl4, _, _, _, hlb4, _⟩ := R3.out.open'
      simp only [List.cons.injEq, Value.slice.injEq, and_true, true_and] at e4
      obtain ⟨rfl, rfl⟩ := e4
      clear y0 y1 y2 yf hB hS
      obtain ⟨u0, u1, u2, uf⟩ := three_cells Y6.out
      obtain ⟨y0, y1, y2, yf⟩ := three_cells X6.out
      go_wp2_with fail
      refine (HLs.out _ _ _ P6.out A3 c3 x2 (by omega)).mono ?_
      rintro e w7 ⟨rfl, h7, k7⟩
      obtain ⟨Av, cw, hV, hlv, hll⟩ : ∃ Av cw, (if optB xs || !sized x2 0 64 then .slice none 0 0 else .slice A3 x2.l.length c3 : Value) = .slice Av (okL (optB xs) x2 0 64).length cw ∧ Lies 3 SexpR W0 Av (okL (optB xs) x2 0 64) ∧ (okL (optB xs) x2 0 64).length ≤ 4398046511104 := by
        unfold okL
        split
        · exact ⟨none, 0, rfl, .inl rfl, Nat.zero_le _⟩
        · exact ⟨A3, c3, rfl, hl4, by omega⟩
      rw [hV]
      have HL := Lib.hid hlv
      have HLen := Lib.hid hll
      have P7 := Lib.hid h7
      have K7 := Lib.hid (K6.out.trans_same k7)
      clear h7 k7 hV hlv hll hl4 hlb4 u0 u1 u2 uf y0 y1 y2 yf HLs
      generalize (okL (optB xs) x2 0 64) = ys at *
      generalize (optB xs || !sized x2 0 64) = q at *
      obtain ⟨i0, hi0, z0, z1, z2⟩ := info_parts info_int
      have I0 := Lib.hid hi0
      have I1 := Lib.hid z0
      have I2 := Lib.hid z1
      have I3 := Lib.hid z2
      clear hi0 z0 z1 z2
      go_wp2_with fail
      go_loopw [43] (fun i' wr => ∃ k : Nat, k ≤ ys.length ∧ i' = .int .i64 k ∧ ∃ v' : Value, Grows 1 (One (Value.int .i64)) 3 W0 w.heap.size wr v' ((ys.take k).map numV) ∧ ParB wr pb (.slice A xs.length c) (upv (upv (upv zeroV 0 (.int .i8 1)) 1 (.string ky.text)) 3 v') (q || (ys.take k).any noNum) ∧ KeepP pb w wr) (fun i' _ => ys.length - (intOf i').toNat)
      case atStart =>
        refine ⟨0, Nat.zero_le _, rfl, .slice none 0 0, Grows.nil _, ?_, K7.out⟩
        have h := P7.out
        have e : upv (upv (upv zeroV 0 (.int .i8 1)) 1 (.string ky.text)) 3 (.slice none 0 0) = upv (upv zeroV 0 (.int .i8 1)) 1 (.string ky.text) := by
          funext j
          unfold upv
          by_cases hj : j = 3
          · subst hj; rfl
          · rw [if_neg hj]
        rw [e]; simpa using h
      case round =>
        obtain ⟨k, hk, rfl, v', hg, hpr, hkp⟩ := hrel
        have HG := Lib.hid hg
        have HPr := Lib.hid hpr
        have HKp := Lib.hid hkp
        obtain ⟨vals, ho, hrr⟩ := hg.row
        have hlk : ((ys.take k).map numV).length = k := by simp; omega
        have hvl : vals.length = ((ys.take k).map numV).length * 1 := ho.1
        rw [hlk] at ho
        obtain ⟨Ao, co, rfl⟩ := shape_of_owns ho
        have HOw := Lib.hid ho
        have HRr := Lib.hid hrr
        have HLk := Lib.hid hlk
        have HVl := Lib.hid hvl
        clear hg hpr ho hrr hlk hvl
        by_cases hlt : k < ys.length
        · have hlt2 : (k : Int) < (ys.length : Int) := by omega
          have hyk := List.getElem?_eq_getElem hlt
          generalize ys[k] = y at hyk
          have HBr := Lib.hid (HB.out.trans (keepP_below hkp hp HB.out.size))
          obtain ⟨bb, o, A6, c6, rfl, hbl, e0, e1, e2, hr2⟩ := sexp_cells (HL.out.on SexpR.lasts HBr.out) hyk
          have HSt := Lib.hid (show (y.text.size : Int) ≤ 140737488351232 by obtain ⟨_, _, _, _, _, _, h1, _⟩ := hr2.open'; exact h1)
          have HAn := Lib.hid (any_take (f := noNum) hyk)
          have HMp := Lib.hid (map_take' (f := numV) hyk)
          have HSz := Lib.hid hkp.size
          have HLp := Lib.hid HPr.out.lt
          have PB := Lib.hid ((HPr.out.below ((Below.refl _ _).alloc (Nat.le_refl _) (.cells #[.int .i8 y.kind, .string y.text, .slice A6 y.l.length c6] 25))).below (Below.refl _ _).drew)
          have KB := Lib.hid (show KeepP pb w (wr.alloc (.cells #[.int .i8 y.kind, .string y.text, .slice A6 y.l.length c6] 25)).drew from (hkp.alloc _).drew)
          have XB := Lib.hid (show (wr.alloc (.cells #[.int .i8 y.kind, .string y.text, .slice A6 y.l.length c6] 25)).drew.heap[wr.heap.size]? = some (.cells #[.int .i8 y.kind, .string y.text, .slice A6 y.l.length c6] 25 (0, 0)) from blk_new wr _)
          have OB := Lib.hid (show World.ownsRow (wr.alloc (.cells #[.int .i8 y.kind, .string y.text, .slice A6 y.l.length c6] 25)).drew w.heap.size 3 1 (.slice Ao k co) k vals from (HOw.out.alloc _).drew)
          clear hkp hr2 hyk
          go_wp2_with fail
          have hk48 : k < 4398046511104 := Nat.lt_of_lt_of_le hlt HLen.out
          obtain ⟨q0, q1, q2, _⟩ := three_cells XB.out
          refine wp_region_to (by kernel_rfl) (fun W => W.cell? ⟨pb, 4, none⟩ = some (.slice Ao k co) ∧ W.cell? ⟨wr.heap.size, 0, none⟩ = some (.int .i8 y.kind) ∧ W.cell? ⟨wr.heap.size, 1, none⟩ = some (.string y.text) ∧ W.cell? ⟨wr.heap.size, 2, none⟩ = some (.slice A6 y.l.length c6)) 14 (⟨PB.out.cell 3 (by omega), q0, q1, q2⟩) (fun hHeld => ?_)
          clear e0 e1 e2 q0 q1 q2
          refine wpTo_take (i := 0) (oi := Oper.mk _ _ _ _ _ _) (v := ?_) rfl (by kernel_rfl) (by kernel_rfl) (by kernel_rfl) (by kernel_rfl) (fun _ _ _ h => h) (Or.inl ⟨by rfl, ?_⟩) (by assumption) ?_
          rotate_left
          · (intro w hSw; (try dsimp only at hSw); go_simp; try with_reducible rfl)
          try simp only [Act.put, List.setIfInBounds_toArray, List.set_cons_zero, List.set_cons_succ]
          refine wpTo_take (i := 1) (oi := Oper.mk _ _ _ _ _ _) (v := ?_) rfl (by kernel_rfl) (by kernel_rfl) (by kernel_rfl) (by kernel_rfl) (fun _ _ _ h => h) (Or.inl ⟨by rfl, ?_⟩) (by assumption) ?_
          rotate_left
          · (intro w hSw; (try dsimp only at hSw); go_simp; try with_reducible rfl)
          try simp only [Act.put, List.setIfInBounds_toArray, List.set_cons_zero, List.set_cons_succ]
          refine wpTo_take (i := 2) (oi := Oper.mk _ _ _ _ _ _) (v := ?_) rfl (by kernel_rfl) (by kernel_rfl) (by kernel_rfl) (by kernel_rfl) (fun _ _ _ h => h) (Or.inl ⟨by rfl, ?_⟩) (by assumption) ?_
          rotate_left
          · (intro w hSw; (try dsimp only at hSw); go_simp; try with_reducible rfl)
          try simp only [Act.put, List.setIfInBounds_toArray, List.set_cons_zero, List.set_cons_succ]
          refine wpTo_take (i := 3) (oi := Oper.mk _ _ _ _ _ _) (v := ?_) rfl (by kernel_rfl) (by kernel_rfl) (by kernel_rfl) (by kernel_rfl) (fun _ _ _ h => h) (Or.inl ⟨by rfl, ?_⟩) (by assumption) ?_
          rotate_left
          · (intro w hSw; (try dsimp only at hSw); go_simp; try with_reducible rfl)
          try simp only [Act.put, List.setIfInBounds_toArray, List.set_cons_zero, List.set_cons_succ]
          refine wpTo_take (i := 4) (oi := Oper.mk _ _ _ _ _ _) (v := ?_) rfl (by kernel_rfl) (by kernel_rfl) (by kernel_rfl) (by kernel_rfl) (fun _ _ _ h => h) (Or.inl ⟨by rfl, ?_⟩) (by assumption) ?_
          rotate_left
          · (intro w hSw; (try dsimp only at hSw); go_simp; try with_reducible rfl)
          try simp only [Act.put, List.setIfInBounds_toArray, List.set_cons_zero, List.set_cons_succ]
          refine wpTo_take (i := 5) (oi := Oper.mk _ _ _ _ _ _) (v := ?_) rfl (by kernel_rfl) (by kernel_rfl) (by kernel_rfl) (by kernel_rfl) (fun _ _ _ h => h) (Or.inl ⟨by rfl, ?_⟩) (by assumption) ?_
          rotate_left
          · (intro w hSw; (try dsimp only at hSw); go_simp; try with_reducible rfl)
          try simp only [Act.put, List.setIfInBounds_toArray, List.set_cons_zero, List.set_cons_succ]
          refine wpTo_take (i := 6) (oi := Oper.mk _ _ _ _ _ _) (v := ?_) rfl (by kernel_rfl) (by kernel_rfl) (by kernel_rfl) (by kernel_rfl) (fun _ _ _ h => h) (Or.inl ⟨by rfl, ?_⟩) (by assumption) ?_
          rotate_left
          · (intro w hSw; (try dsimp only at hSw); go_simp; try with_reducible rfl)
          try simp only [Act.put, List.setIfInBounds_toArray, List.set_cons_zero, List.set_cons_succ]
          refine wpTo_take (i := 7) (oi := Oper.mk _ _ _ _ _ _) (v := ?_) rfl (by kernel_rfl) (by kernel_rfl) (by kernel_rfl) (by kernel_rfl) (fun _ _ _ h => h) (Or.inl ⟨by rfl, ?_⟩) (by assumption) ?_
          rotate_left
          · (intro w hSw; (try dsimp only at hSw); go_simp; try with_reducible rfl)
          try simp only [Act.put, List.setIfInBounds_toArray, List.set_cons_zero, List.set_cons_succ]
          refine wpTo_step (i := 8) (o := Oper.mk _ _ _ _ _ _) (by kernel_rfl) rfl (fun K hK => ?_)
          go_simp
          go_wp2_with (go_at_call 53; refine (HNu.out _ _ _ PB.out A6 c6 y HSt.out).mono ?_; rintro e w8 ⟨rfl, h8, k8⟩; have X8 := Lib.hid (blk_keep XB.out k8 (by have := HLp.out; omega)); obtain ⟨q0, q1, q2, _⟩ := three_cells X8.out)
          refine hK.out _ _ (⟨h8.cell 3 (by omega), q0, q1, q2⟩) (fun hHeld => ?_)
          clear hK K
          try simp only [Act.put, List.setIfInBounds_toArray, List.set_cons_zero, List.set_cons_succ]
          have P8 := Lib.hid h8
          have K8 := Lib.hid (KB.out.trans_same k8)
          have O8 := Lib.hid (owns_keep OB.out k8 (fun j hj => by subst hj; exact HLt.out))
          have S8 := Lib.hid (show wr.heap.size + 1 ≤ w8.heap.size by have := k8.size; simp at this; exact this)
          have PA := Lib.hid (h8.below ((Below.refl _ _).alloc (Nat.le_refl _) (.cells #[.int .i64 (parseV (Lx.bs y.text))] 3)))
          have OA := Lib.hid (show World.ownsRow (w8.alloc (.cells #[.int .i64 (parseV (Lx.bs y.text))] 3)) w.heap.size 3 1 (.slice Ao k co) k vals from O8.out.alloc _)
          have XA := Lib.hid ((Below.heap_alloc w8 (.cells #[.int .i64 (parseV (Lx.bs y.text))] 3) wr.heap.size (lt_of_block X8.out)).trans X8.out)
          have CA := Lib.hid (Cells.new w8 [.int .i64 (parseV (Lx.bs y.text))] 3 (0, 0))
          obtain ⟨r0, r1, r2, _⟩ := three_cells XA.out
          clear h8 k8 q0 q1 q2
          refine wpTo_step (i := 9) (o := Oper.mk _ _ _ _ _ _) (by kernel_rfl) rfl (fun K hK => ?_)
          go_simp
          refine hK.out _ _ (⟨PA.out.cell 3 (by omega), r0, r1, r2⟩) (fun hHeld => ?_)
          clear hK K
          try simp only [Act.put, List.setIfInBounds_toArray, List.set_cons_zero, List.set_cons_succ]
          clear r0 r1 r2
          refine wpTo_step (i := 10) (o := Oper.mk _ _ _ _ _ _) (by kernel_rfl) rfl (fun K hK => ?_)
          (refine step_append_at (by rfl) _ _ _ (by rfl) w.heap.size 3 i0 (.int .i64 0) 1 8 Tryz.underlying28 I0.out I1.out I2.out I3.out rfl (by decide) (.slice Ao k co) k vals (by rfl) OA.out (some ⟨w8.heap.size, 0, none⟩) 1 1 [.int .i64 (parseV (Lx.bs y.text))] (by rfl) rfl CA.out (by simp [Value.oneCell']) (by unfold maxLen; omega) (by omega) (by have := S8.out; have := HSz.out; simp; omega) ?_; intro v' w9 hown hgr hat; obtain ⟨A9, c9, rfl⟩ := shape_of_owns hown; have P9 := Lib.hid (PA.out.grown hgr (fun e => by have := (OA.out.lt pb e).1; have := HLt.out; omega)); have X9 := (hgr.block wr.heap.size (lt_of_block XA.out) (fun e => by have := (HOw.out.lt _ e.symm).2; omega)).trans XA.out; obtain ⟨r0, r1, r2, _⟩ := three_cells X9)
          refine hK.out _ _ (⟨P9.out.cell 3 (by omega), r0, r1, r2⟩) (fun hHeld => ?_)
          clear hK K
          try simp only [Act.put, List.setIfInBounds_toArray, List.set_cons_zero, List.set_cons_succ]
          have HG9 := Lib.hid (show Grows 1 (One (Value.int .i64)) 3 W0 w.heap.size w9 (.slice A9 (k + 1) c9) ((ys.take (k + 1)).map numV) from by
            rw [HMp.out]
            exact Grows.push (vs := [.int .i64 (numV y)]) HVl.out HRr.out (by rw [HLk.out]; exact hown) rfl rfl)
          have HK9 := Lib.hid (show KeepP pb w w9 from (K8.out.alloc _).grown hgr (fun j hj => .inr (OA.out.lt j hj).1))
          clear hown hgr hat X9 r0 r1 r2
          refine wpTo_step (i := 11) (o := Oper.mk _ _ _ _ _ _) (by kernel_rfl) rfl (fun K hK => ?_)
          go_simp
          refine hK.out _ _ ((by assumption)) (fun hHeld => ?_)
          clear hK K
          try simp only [Act.put, List.setIfInBounds_toArray, List.set_cons_zero, List.set_cons_succ]
          refine wpTo_step (i := 12) (o := Oper.mk _ _ _ _ _ _) (by kernel_rfl) rfl (fun K hK => ?_)
          go_simp
          refine hK.out _ _ ((by assumption)) (fun hHeld => ?_)
          clear hK K
          try simp only [Act.put, List.setIfInBounds_toArray, List.set_cons_zero, List.set_cons_succ]
          refine wpTo_step (i := 13) (o := Oper.mk _ _ _ _ _ _) (by kernel_rfl) rfl (fun K hK => ?_)
          go_simp
          refine hK.out _ _ ((by assumption)) (fun hHeld => ?_)
          clear hK K
          try simp only [Act.put, List.setIfInBounds_toArray, List.set_cons_zero, List.set_cons_succ]
          have pf := P9.out.free 4
          have pc := P9.out.cell 3 (by omega)
          refine wpTo_last (o := Oper.mk _ _ _ _ _ _) (by kernel_rfl) rfl (fun K hK => ?_)
          go_simp
          refine hK.out _ _ ?_
          clear hK K
          try simp only [Act.put, List.setIfInBounds_toArray, List.set_cons_zero, List.set_cons_succ]
          refine wpTo_done (by kernel_rfl) ?_ _
          clear pf pc
          have HP10 := Lib.hid (P9.out.setCmd 3 (by omega) (.slice A9 (k + 1) c9))
          have HK10 := Lib.hid (HK9.out.setCell (p := ⟨pb, 1 + 3, none⟩) (.inl rfl) (.slice A9 (k + 1) c9))
          have HG10 := Lib.hid (HG9.out.setCell (p := ⟨pb, 1 + 3, none⟩) (.slice A9 (k + 1) c9) HLt.out)
          go_wp2_with fail
          go_roundw
          case rel => exact ⟨k + 1, by omega, by go_num, .slice A9 (k + 1) c9, HG10.out, by rw [HAn.out, ← Bool.or_assoc]; have h := HP10.out; rw [upv_upv] at h; exact h, HK10.out⟩
          case measure => simp [intOf]; omega
        · obtain rfl : k = ys.length := by omega
          have HPe := Lib.hid (show ParB wr pb (.slice A xs.length c) (upv (upv (upv zeroV 0 (.int .i8 1)) 1 (.string ky.text)) 3 (.slice Ao ys.length co)) (q || ys.any noNum) by have h := HPr.out; rw [List.take_length] at h; exact h)
          have HNL := Lib.hid (show NewLies 1 (One (Value.int .i64)) w.heap.size wr Ao (ys.map numV) from grows_new (n := 1) (t := 3) (w0 := W0) (c := co) (fun _ _ _ _ h => h) (by
            have h := HG.out
            rw [List.take_length] at h
            rw [List.length_map]; exact h))
          have HSh := Lib.hid (show ys.length ≤ co ∧ co ≤ maxLen by
            obtain ⟨A9, c9, e, h1, h2⟩ := HG.out.shape
            simp only [Value.slice.injEq] at e
            obtain ⟨_, _, rfl⟩ := e
            rw [HLk.out] at h1
            exact ⟨h1, h2⟩)
          clear hkp
          go_wp2_with fail
          go_end0
          exact ⟨_, _, rfl, HPe.out, HKp.out, fun W' hW => HE.out W' Ao co _ (HNL.out.keep (fun _ _ _ _ h => h) hW (fun j hj => Nat.lt_trans hj.2 HLt.out)).lies HSh.out.1 HSh.out.2 rfl⟩
    · have hS' : (ky.text.toList == [115, 101, 101, 100, 115]) = false := tl_false hS
      have HE := Lib.hid (fun w' cv => opt_other (w' := w') (xs := xs) (cv := cv) (by rw [hky]; exact hB) (by rw [hky]; exact hS))
      clear hB hS
      have f9 := P6.out.free 9
      have d9 := P6.out.badc
      go_wp2_with fail
      go_end0
      exact ⟨_, _, rfl, P6.out.setBad true, K6.out.setCell (.inl rfl) _, fun W' _ => HE.out W' _⟩
end Go.Proofs.YtbchcipjpcdhfaaGreatDoor.Cm
/- Maps of the call's own, told by what stands at which key. No condition. -/
namespace Go.Proofs.YtbchcipjpcdhfaaGreatDoor
open Go.RowKit Go.Maps

theorem plainElem_bool_inv {P : Program} {e : TypeId} (he : P.underlying e = some .bool) {v : Value} {z : DataW Unit × List MemPlace} (h : plainElem P e v = some z) : ∃ b, v = .bool b ∧ z = (.lit (.bool b), []) := by
  unfold plainElem at h
  rw [he] at h
  split at h
  · rename_i x _; cases h; exact ⟨_, rfl, rfl⟩
  all_goals simp_all
/-- a map to bools: S tells where true stands -/
def BoolMap (P : Program) (k e : TypeId) (w : World) (b n : Nat) (S : Value → Prop) : Prop :=
  ∃ D : DataW Unit, w.ownsMap P k (plainElem P e) b n D ∧ ∀ key kl, keyOf P k key = some kl → ∃ c, D.atKey kl (.lit (.bool false)) = .lit (.bool c) ∧ (c = true ↔ S key)
section
variable {P : Program} {k e t : TypeId} {w : World} {b n : Nat} {S : Value → Prop}
theorem BoolMap.made (w : World) (P : Program) (k e : TypeId) : BoolMap P k e (w.alloc (.map #[] 0)) w.heap.size 0 (fun _ => False) :=
  ⟨.map [], World.ownsMap_made w P k _, fun _ _ _ => ⟨false, rfl, by simp⟩⟩
theorem BoolMap.kept {w' : World} {row : Option Nat} (h : BoolMap P k e w b n S) (hg : w.grownBy w' row) (hne : some b ≠ row) : BoolMap P k e w' b n S := by
  obtain ⟨D, h1, h2⟩ := h
  exact ⟨D, h1.kept hg hne, h2⟩
theorem BoolMap.lt (h : BoolMap P k e w b n S) : b < w.heap.size := by obtain ⟨D, h1, _⟩ := h; exact h1.lt
theorem BoolMap.alloc (h : BoolMap P k e w b n S) (o : Obj) : BoolMap P k e (w.alloc o) b n S := by obtain ⟨D, h1, h2⟩ := h; exact ⟨D, h1.alloc o, h2⟩
theorem BoolMap.keeps {T : Nat → Prop} {w' : World} (h : BoolMap P k e w b n S) (hk : Keeps T w w') (hT : ¬ T b) : BoolMap P k e w' b n S := by
  obtain ⟨D, ⟨es, clock, hb, r⟩, h2⟩ := h
  exact ⟨D, ⟨es, clock, (hk.block b (lt_of_block hb) hT).trans hb, r⟩, h2⟩
theorem BoolMap.below {w' : World} (h : BoolMap P k e w b n S) (hb : Below w.heap.size w w') : BoolMap P k e w' b n S := h.keeps (Keeps.of_below hb (fun _ => False)) id
theorem BoolMap.imp {S' : Value → Prop} (h : BoolMap P k e w b n S) (hS : ∀ x, S x ↔ S' x) : BoolMap P k e w b n S' := by
  obtain ⟨D, h1, h2⟩ := h
  exact ⟨D, h1, fun key kl hk => by obtain ⟨c, a, r⟩ := h2 key kl hk; exact ⟨c, a, r.trans (hS key)⟩⟩
theorem BoolMap.look (h : BoolMap P k e w b n S) (K : Keyed P k) (ht : P.underlying t = some (.map k e)) (he : P.underlying e = some .bool) (hz : ∀ w, (zeroValue e).run P w = .ok (.bool false) w) {key : Value} {kl : Lit} (hkey : keyOf P k key = some kl) :
    ∃ c, (Instr.lookup t (.map (some b)) key false).run P w = .ok (.bool c) w ∧ (c = true ↔ S key) := by
  obtain ⟨D, h1, h2⟩ := h
  obtain ⟨v, ps, hrun, hv⟩ := h1.lookup K ht (hz w) (plainElem_bool he false) hkey
  obtain ⟨c, hc, hS⟩ := h2 key kl hkey
  obtain ⟨c', rfl, hc'⟩ := plainElem_bool_inv he hv
  rw [hc] at hc'
  simp at hc'
  exact ⟨c', hrun, by rw [← hc'.1]; exact hS⟩
theorem BoolMap.store (h : BoolMap P k e w b n S) (K : Keyed P k) (ht : P.underlying t = some (.map k e)) (he : P.underlying e = some .bool) (hn : n < maxLen) {key : Value} {kl : Lit} (hkey : keyOf P k key = some kl) :
    ∃ w', (Instr.mapUpdate t (.map (some b)) key (.bool true)).run P w = .ok () w' ∧ BoolMap P k e w' b (n + 1) (fun x => x = key ∨ S x) ∧ w.grownBy w' (some b) := by
  obtain ⟨D, h1, h2⟩ := h
  obtain ⟨w', hrun, h3, h4⟩ := h1.update K ht hn hkey (plainElem_bool he true)
  refine ⟨w', hrun, ⟨_, h3, fun x xl hx => ?_⟩, h4⟩
  by_cases hq : xl = kl
  · subst hq
    have hxk : x = key := K.inj hx hkey
    exact ⟨true, atKey_put_same h1.isMap (K.key hkey) _ _, by simp [hxk]⟩
  · obtain ⟨c, hc, hS⟩ := h2 x xl hx
    refine ⟨c, (atKey_put_other hq _ _).trans hc, hS.trans ⟨.inr, fun h => h.elim (fun e => ?_) id⟩⟩
    subst e; rw [hx] at hkey; exact absurd (Option.some.inj hkey) hq
end
theorem zero_bool (w : World) : (zeroValue 4).run Tryz.prog w = .ok (.bool false) w := by kernel_rfl
theorem string_key : Keyed Tryz.prog 9 := string_keyed Tryz.underlying9
theorem keyOf_str {s : ByteArray} (hs : (s.size : Int) ≤ 140737488351232) : keyOf Tryz.prog 9 (.string s) = some (.string s.data.toList) := WideMaps.keyOf_string_mk Tryz.underlying9 (by unfold maxLen; omega)
end Go.Proofs.YtbchcipjpcdhfaaGreatDoor
/- Maps of the call's own from plain keys to whatever values, told by what stands at which key. No condition. -/
namespace Go.Proofs.YtbchcipjpcdhfaaGreatDoor
open Go.RowKit Go.Maps

/-- every value stands for itself -/
def heldR (v : Value) : Option (DataW Value × List MemPlace) := some (.held v, [])
def KeyMap {κ : Type} (kt : TypeId) (key : κ → Value) (w : World) (b n : Nat) (F : κ → Option Value) : Prop :=
  ∃ D : DataW Value, w.ownsMap Tryz.prog kt heldR b n D ∧ ∀ a kl, keyOf Tryz.prog kt (key a) = some kl → Maps.has D kl = (F a).isSome ∧ ∀ z, D.atKey kl (.held z) = .held ((F a).getD z)
section
variable {κ : Type} {kt e t : TypeId} {key : κ → Value} {w w' : World} {b n : Nat} {F : κ → Option Value} {a : κ}
theorem KeyMap.made (w : World) : KeyMap kt key (w.alloc (.map #[] 0)) w.heap.size 0 (fun _ => none) := ⟨.map [], World.ownsMap_made w _ _ _, fun _ _ _ => ⟨rfl, fun _ => rfl⟩⟩
theorem KeyMap.keeps {T : Nat → Prop} (h : KeyMap kt key w b n F) (hk : Keeps T w w') (hT : ¬ T b) : KeyMap kt key w' b n F := by
  obtain ⟨D, ⟨es, clock, hb, r⟩, h2⟩ := h
  exact ⟨D, ⟨es, clock, (hk.block b (lt_of_block hb) hT).trans hb, r⟩, h2⟩
theorem KeyMap.below (h : KeyMap kt key w b n F) (hb : Below w.heap.size w w') : KeyMap kt key w' b n F := h.keeps (Keeps.of_below hb (fun _ => False)) id
theorem KeyMap.lt (h : KeyMap kt key w b n F) : b < w.heap.size := by obtain ⟨D, h1, _⟩ := h; exact h1.lt
theorem KeyMap.kept {row : Option Nat} (h : KeyMap kt key w b n F) (hg : w.grownBy w' row) (hne : some b ≠ row) : KeyMap kt key w' b n F := by
  obtain ⟨D, h1, h2⟩ := h
  exact ⟨D, h1.kept hg hne, h2⟩
theorem KeyMap.look (h : KeyMap kt key w b n F) (K : Keyed Tryz.prog kt) (ht : Tryz.prog.underlying t = some (.map kt e)) {z : Value} (hz : (zeroValue e).run Tryz.prog w = .ok z w) {kl : Lit} (hkl : keyOf Tryz.prog kt (key a) = some kl) :
    (Instr.lookup t (.map (some b)) (key a) true).run Tryz.prog w = .ok (.tuple #[(F a).getD z, .bool (F a).isSome]) w := by
  obtain ⟨D, h1, h3⟩ := h
  obtain ⟨q1, q2⟩ := h3 a kl hkl
  obtain ⟨v, ps, hrun, hv⟩ := h1.look_ok K ht hz (show heldR z = some (.held z, []) from rfl) hkl
  rw [q2 z] at hv
  unfold heldR at hv
  simp at hv
  rw [q1, hv.1] at hrun
  exact hrun
theorem KeyMap.get (h : KeyMap kt key w b n F) (K : Keyed Tryz.prog kt) (ht : Tryz.prog.underlying t = some (.map kt e)) {z : Value} (hz : (zeroValue e).run Tryz.prog w = .ok z w) {kl : Lit} (hkl : keyOf Tryz.prog kt (key a) = some kl) :
    (Instr.lookup t (.map (some b)) (key a) false).run Tryz.prog w = .ok ((F a).getD z) w := by
  obtain ⟨D, h1, h3⟩ := h
  obtain ⟨q1, q2⟩ := h3 a kl hkl
  obtain ⟨v, ps, hrun, hv⟩ := h1.lookup K ht hz (show heldR z = some (.held z, []) from rfl) hkl
  rw [q2 z] at hv
  unfold heldR at hv
  simp at hv
  rw [hv.1] at hrun
  exact hrun
theorem KeyMap.store [DecidableEq κ] (h : KeyMap kt key w b n F) (K : Keyed Tryz.prog kt) (inj : ∀ x y, key x = key y → x = y) (ht : Tryz.prog.underlying t = some (.map kt e)) (hn : n < maxLen) {kl : Lit} (hkl : keyOf Tryz.prog kt (key a) = some kl) (v : Value) :
    ∃ w', (Instr.mapUpdate t (.map (some b)) (key a) v).run Tryz.prog w = .ok () w' ∧ KeyMap kt key w' b (n + 1) (fun x => if x = a then some v else F x) ∧ w.grownBy w' (some b) := by
  obtain ⟨D, h1, h3⟩ := h
  obtain ⟨w', hrun, q1, q2⟩ := h1.update K ht hn hkl (show heldR v = some (.held v, []) from rfl)
  refine ⟨w', hrun, ⟨_, q1, fun x xl hx => ?_⟩, q2⟩
  by_cases hq : xl = kl
  · subst hq
    have hxa : x = a := inj _ _ (K.inj hx hkl)
    simp only [if_pos hxa]
    exact ⟨has_put_same h1.isMap (K.key hkl) _, fun z => atKey_put_same h1.isMap (K.key hkl) _ _⟩
  · have hne : x ≠ a := fun e => by subst e; rw [hx] at hkl; exact hq (Option.some.inj hkl)
    simp only [if_neg hne]
    obtain ⟨r1, r2⟩ := h3 x xl hx
    exact ⟨(has_put_other hq _).trans r1, fun z => (atKey_put_other hq _ _).trans (r2 z)⟩
end
end Go.Proofs.YtbchcipjpcdhfaaGreatDoor
/- An expression's head. -/
namespace Go.Proofs.YtbchcipjpcdhfaaGreatDoor.Dt
open Go.RowKit

def headS (x : Sexp) : ByteArray := match x.l with
  | [] => { data := #[] }
  | y :: _ => if x.kind = 3 ∧ y.kind = 0 then y.text else { data := #[] }
set_option maxHeartbeats 1600000 in
theorem head_any {w : World} {A : Option Addr} {c : Nat} {x : Sexp} (h : SexpR w [.int .i8 x.kind, .string x.text, .slice A x.l.length c] x) :
    Calls Tryz.prog 33 #[.agg #[.int .i8 x.kind, .string x.text, .slice A x.l.length c]] w fun e w' => e = .returned (.string (headS x)) ∧ Below w.heap.size w w' := by
  obtain ⟨A0, c0, e0, hl, hc, hcm, _, hlb, _⟩ := h.open'
  simp only [List.cons.injEq, Value.slice.injEq, and_true, true_and] at e0
  obtain ⟨rfl, rfl⟩ := e0
  have HB := Lib.hid ((Below.refl w.heap.size w).alloc (Nat.le_refl _) (.cells #[.int .i8 x.kind, .string x.text, .slice A x.l.length c] 25))
  have HS := Lib.hid (show headS x = match x.l with
    | [] => { data := #[] }
    | y :: _ => if x.kind = 3 ∧ y.kind = 0 then y.text else { data := #[] } from rfl)
  have HL := Lib.hid hl
  generalize headS x = hd at *
  generalize x.text = t at *
  generalize x.l = l at *
  clear h hl
  by_cases hk : x.kind = 3
  · rw [hk] at HS HB ⊢
    cases l with
    | nil =>
      replace HS := HS.out
      subst HS
      go_enter Tryz.func33, Tryz.ntmps33
      go_wp2_with fail
      go_ret
      exact ⟨rfl, HB.out⟩
    | cons y r =>
      obtain ⟨b, o, A', c', rfl, hbl, e0, e1, e2, hr⟩ := sexp_cells HL.out (k := 0) (y := y) rfl
      have HC := Lib.hid (show ∀ j u, w.cell? ⟨b, o + 0 * 3 + j, none⟩ = some u → ∀ w', Below w.heap.size w w' → w'.cell? ⟨b, o + 0 * 3 + j, none⟩ = some u from fun j u hu w' hb => (hb.cell (p := ⟨b, o + 0 * 3 + j, none⟩) hbl).trans hu)
      have hn : (((y :: r).length : Int) == 0) = false := by rw [beq_eq_false_iff_ne, List.length_cons]; omega
      have hn2 : (0 : Int) < ((y :: r).length : Int) := by rw [List.length_cons]; omega
      generalize (y :: r).length = n at *
      clear hr HL e2
      by_cases h0 : y.kind = 0
      · replace HS : hd = y.text := HS.out.trans (if_pos ⟨rfl, h0⟩)
        subst HS
        rw [h0] at e0
        go_enter Tryz.func33, Tryz.ntmps33
        go_upto_region 1 with fail
        have d0 := HC.out 0 _ e0 _ HB.out
        have d1 := HC.out 1 _ e1 _ HB.out
        simp only [Nat.add_zero, Nat.zero_mul] at d0
        simp only [Nat.add_zero, Nat.zero_mul] at d1
        obtain ⟨q0, q1, q2, _⟩ := box_cells w (.int .i8 3) (.string t) (.slice (some ⟨b, o, none⟩) n c) 25
        generalize w.alloc (.cells #[.int .i8 3, .string t, .slice (some ⟨b, o, none⟩) n c] 25) = w1 at *
        go_wp2_with fail
        go_ret
        exact ⟨rfl, HB.out⟩
      · replace HS : hd = { data := #[] } := HS.out.trans (if_neg (fun h => h0 h.2))
        subst HS
        have h0' : (y.kind == 0) = false := beq_eq_false_iff_ne.2 h0
        have h0'' : (y.kind != 0) = true := by rw [bne, h0']; rfl
        generalize y.kind = yk at *
        go_enter Tryz.func33, Tryz.ntmps33
        go_upto_region 1 with fail
        have d0 := HC.out 0 _ e0 _ HB.out
        simp only [Nat.add_zero, Nat.zero_mul] at d0
        obtain ⟨q0, q1, q2, _⟩ := box_cells w (.int .i8 3) (.string t) (.slice (some ⟨b, o, none⟩) n c) 25
        generalize w.alloc (.cells #[.int .i8 3, .string t, .slice (some ⟨b, o, none⟩) n c] 25) = w1 at *
        go_wp2_with fail
        go_ret
        exact ⟨rfl, HB.out⟩
  · have hk' : (x.kind == 3) = false := beq_eq_false_iff_ne.2 hk
    have hk'' : (x.kind != 3) = true := by rw [bne, hk']; rfl
    replace HS : hd = { data := #[] } := by
      rw [HS.out]
      cases l with
      | nil => rfl
      | cons y r => exact if_neg (fun h => hk h.1)
    subst HS
    generalize x.kind = k at *
    generalize l.length = n at *
    go_enter Tryz.func33, Tryz.ntmps33
    go_wp2_with fail
    go_ret
    exact ⟨rfl, HB.out⟩
end Go.Proofs.YtbchcipjpcdhfaaGreatDoor.Dt
