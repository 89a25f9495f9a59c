import Derived.Test.YtpmdcckapddchaaGreatShort
import Derived.Test.YtpmdcckapddchaaGreatMo
import Derived.Test.YtpmdcckapddchaaGreatMp
import Derived.Test.YtpmdcckapddchaaGreatMm
import Derived.Test.YtpmdcckapddchaaGreatMe
import Derived.Test.YtpmdcckapddchaaGreatShelf
import Derived.Deep.RegionHeld3
/- merged by wip/merge.py from: ElSum ElWays ElDiffer -/
/- Sums, if each part is told of. -/
namespace Go.Proofs.YtpmdcckapddchaaGreat.El
open Go.RowKit Go.Maps Go.Proofs.YtpmdcckapddchaaGreat.Dt Go.Proofs.YtpmdcckapddchaaGreat.Sg

theorem lies_drop {α : Type} {n : Nat} {R : World → List Value → α → Prop} {w : World} {b o : Nat} {xs : List α} (h : Lies n R w (some ⟨b, o, none⟩) xs) (k : Nat) : Lies n R w (some ⟨b, o + k * n, none⟩) (xs.drop k) := by
 rcases h with h | ⟨b', o', hA, hlt, hr⟩
 ·exact .inl (by rw [h]; simp)
 ·simp only [Option.some.injEq, Addr.mk.injEq, and_true] at hA
  obtain ⟨rfl, rfl⟩ := hA
  refine .inr ⟨b, o + k * n, rfl, hlt, fun i x hx => ?_⟩
  rw [List.getElem?_drop] at hx
  obtain ⟨vs, h1, h2, h3⟩ := hr (k + i) x hx
  refine ⟨vs, h1, fun j u hu => ?_, h3⟩
  have := h2 j u hu
  rw [Nat.add_mul] at this
  rwa [show o + (k * n + i * n) + j = o + k * n + i * n + j by omega] at this
theorem nth_mem {x : Sexp} {i : Nat} (h : i < x.l.length) : nthX x i ∈ x.l := List.mem_of_getElem? (nth_get h)
theorem nth_xs {W0 : World} {A : Option Addr} {c : Nat} {x : Sexp} (h : XAt W0 A c x) {i : Nat} (hi : i < x.l.length) : ∃ b o A' c', A = some ⟨b, o, none⟩ ∧ XAt W0 A' c' (nthX x i) ∧
  ∀ W, Below W0.heap.size W0 W → W.cell? ⟨b, o + i * 3, none⟩ = some (.int .i8 (nthX x i).kind) ∧ W.cell? ⟨b, o + i * 3 + 1, none⟩ = some (.string (nthX x i).text) ∧ W.cell? ⟨b, o + i * 3 + 2, none⟩ = some (.slice A' (nthX x i).l.length c') := xs_get h.opens.1 (nth_get hi)
set_option maxRecDepth 100000 in
set_option maxHeartbeats 6400000 in
theorem sum_any {F : Fix} (hF : FixOk F) {known : Nat} {x : Sexp} (hT : ∀ y ∈ x.l, TermC F known y) {w : World} {st : St} {At : Option Addr} {ct : Nat} (hm : Mk F w known st At ct) (name : ByteArray) {A : Option Addr} {c : Nat} (hx : XAt F.W0 A c x) {p : Option Addr} {env : Env} (he : EnvS F w p env) :
  Calls Tryz.prog 79 #[.pointer (some ⟨F.mb, 0, none⟩), .string name, .agg #[.int .i8 x.kind, .string x.text, .slice A x.l.length c], .pointer p] w (MkPost F known w st.t At (sumM F.c (fun y => termP F.c known y env) name x st).1 (sumM F.c (fun y => termP F.c known y env) name x st).2) := by
 have HT := kp hT
 have HX := kp hx
 have HE := kp he
 have hlt := hm.lt
 have B1 := kp ((Below.refl w.heap.size w).alloc (Nat.le_refl _) (.cells #[.int .i8 x.kind, .string x.text, .slice A x.l.length c] 30))
 have Z1 := kp (show (w.alloc (.cells #[.int .i8 x.kind, .string x.text, .slice A x.l.length c] 30)).heap.size = w.heap.size + 1 by simp)
 have D1 := kp (Mid.newOn hm B1.out)
 have X1 := kp (Bk.keep (Bk.new w (.cells #[.int .i8 x.kind, .string x.text, .slice A x.l.length c] 30)) (.cells #[.int .i64 0, .int .i64 0] 69))
 rw [Z1.out] at D1
 generalize hr : (fun y => termP F.c known y env) = r
 have HRf := kp (fun y s => show termP F.c known y env s = r y s by rw [← hr])
 have HS := kp (show sumM F.c r name x st = if x.l.length = 2 ∧ name = sMinus then (v0, failS 34 (r (nthX x 1) st).2)
  else if x.l.length ≠ 3 then (v0, failS 30 st)
  else if isNumX (nthX x 2) then opM F.c 11 (if name = sMinus then - (numberM F.c (nthX x 2) (r (nthX x 1) st).2).1 else (numberM F.c (nthX x 2) (r (nthX x 1) st).2).1) [(r (nthX x 1) st).1] (numberM F.c (nthX x 2) (r (nthX x 1) st).2).2
  else if name = sPlus ∧ isNumX (nthX x 1) = true then opM F.c 11 (numberM F.c (nthX x 1) st).1 [(r (nthX x 2) (numberM F.c (nthX x 1) st).2).1] (r (nthX x 2) (numberM F.c (nthX x 1) st).2).2
  else (v0, failS 34 (allM r x.l.tail st).2) from rfl)
 have HLc := kp hx.opens
 clear hm hr hT hx he
 generalize sumM F.c r name x st = res at *
 go_enter Tryz.func79, Tryz.ntmps79
 go_upto_region 1 with fail
 generalize (w.alloc (.cells #[.int .i8 x.kind, .string x.text, .slice A x.l.length c] 30)).alloc (.cells #[.int .i64 0, .int .i64 0] 69) = w1 at *
 obtain ⟨q0, q1, q2, qf⟩ := Bk.c3 X1.out
 by_cases h1 : x.l.length = 2 ∧ name = sMinus
 ·replace HS := kp (HS.out.trans (if_pos h1))
  have g1 : ((x.l.length : Int) == 2) = true := by rw [h1.1]; rfl
  have g2 : (name.toList == [45]) = true := tl_true h1.2
  have g3 : (1 : Int) < (x.l.length : Int) := by omega
  have HM := kp (nth_mem (x := x) (i := 1) (by omega))
  obtain ⟨b, o, A', c', rfl, hxy, hcells⟩ := nth_xs HX.out (i := 1) (by omega)
  have HC := kp (HT.out _ HM.out D1.out.maker hxy (HE.out.on D1.out.keeps))
  rw [HRf.out] at HC
  obtain ⟨e0, e1, e2⟩ := hcells w1 D1.out.maker.below
  generalize nthX x 1 = y at *
  generalize r y st = pr at *
  clear h1 hxy hcells
  go_wp2_with fail
  refine HC.out.mono ?_
  rintro e w7 ⟨rfl, hv, hk7, A7, c7, hm7, ht7⟩
  have D7 := kp (D1.out.call hk7 hm7 ht7)
  unfold valV
  clear hv hk7 hm7 ht7 e0 e1 e2 q0 q1 q2 qf
  have HFl := kp (fail_any hF D7.out.maker 34 (by decide))
  rw [show failS 34 _ = res.2 by rw [HS.out]] at HFl
  go_wp2_with fail
  refine HFl.out.mono ?_
  rintro e w8 ⟨rfl, hv, hk8, A8, c8, hm8, ht8⟩
  have D8 := kp (D7.out.call hk8 hm8 ht8)
  unfold valV v0
  clear hk8 hm8 ht8 HFl
  obtain ⟨r0, r1, rf⟩ := Bk.c2 D8.out.cell
  go_wp2_with fail
  rw [show res.1 = v0 by rw [HS.out]]
  refine D8.out.ret (v := v0) hF Tryz.results79 ?_ ?_ v0_VI <;> rfl
 replace HS := kp (HS.out.trans (if_neg h1))
 have HG := kp (show ((x.l.length : Int) == 2) = false ∨ ((x.l.length : Int) == 2) = true ∧ (name.toList == [45]) = false by
  by_cases h : x.l.length = 2
  ·exact .inr ⟨by rw [h]; rfl, tl_false (fun e => h1 ⟨h, e⟩)⟩
  ·exact .inl (by rw [beq_eq_false_iff_ne]; omega))
 by_cases h3 : x.l.length = 3
 ·have g1 : ((x.l.length : Int) == 2) = false := by rw [h3]; rfl
  have g2 : ((x.l.length : Int) != 3) = false := by rw [h3]; rfl
  have g3 : (2 : Int) < (x.l.length : Int) := by omega
  have g4 : (1 : Int) < (x.l.length : Int) := by omega
  replace HS := kp (HS.out.trans (if_neg (fun h => h h3)))
  obtain ⟨b, o, A1, c1, hA, hx1, hc1⟩ := nth_xs HX.out (i := 1) (by omega)
  obtain ⟨b', o', A2, c2, hA2, hx2, hc2⟩ := nth_xs HX.out (i := 2) (by omega)
  subst hA
  simp only [Option.some.injEq, Addr.mk.injEq, and_true] at hA2
  obtain ⟨rfl, rfl⟩ := hA2
  have HX1 := kp hx1
  have HX2 := kp hx2
  have HC1 := kp hc1
  have HC2 := kp hc2
  have HM1 := kp (nth_mem (x := x) (i := 1) (by omega))
  have HM2 := kp (nth_mem (x := x) (i := 2) (by omega))
  have HNu := kp (isnum_any (hx2.on D1.out.maker.below))
  have HTl := kp (show x.l.tail = x.l.drop 1 by rw [List.drop_one])
  have hcl3 := HLc.out.2.1
  clear h1 hx1 hx2 hc1 hc2 HG
  generalize nthX x 1 = y1 at *
  generalize nthX x 2 = y2 at *
  obtain ⟨f0, f1, f2⟩ := HC2.out w1 D1.out.maker.below
  by_cases h4 : isNumX y2 = true
  ·replace HS := kp (HS.out.trans (if_pos h4))
   rw [h4] at HNu
   clear h4 h3
   go_wp2_with fail
   refine HNu.out.mono ?_
   rintro e w2 ⟨rfl, hb2⟩
   have D2 := kp (D1.out.below hb2)
   have X2 := kp (Bk.on X1.out hb2)
   clear hb2 q0 q1 q2 qf f0 f1 f2
   obtain ⟨q0, q1, q2, qf⟩ := Bk.c3 X2.out
   obtain ⟨e0, e1, e2⟩ := HC1.out w2 D2.out.maker.below
   have HC := kp (HT.out _ HM1.out D2.out.maker HX1.out (HE.out.on D2.out.keeps))
   rw [HRf.out] at HC
   generalize r y1 st = pr at *
   obtain ⟨pv, ps⟩ := pr
   go_wp2_with fail
   refine HC.out.mono ?_
   rintro e w3 ⟨rfl, hv, hk3, A3, c3, hm3, ht3⟩
   have D3 := kp (D2.out.call hk3 hm3 ht3)
   have X3 := kp (D2.out.blk hk3 X2.out (Nat.le_refl _))
   have VP := kp hv
   unfold valV
   clear hv hk3 hm3 ht3 q0 q1 q2 qf e0 e1 e2
   have D4 := kp (D3.out.alloc (.cells #[.int .i64 pv.1, .int .i64 pv.2] 69))
   have X4 := kp (Bk.keep X3.out (.cells #[.int .i64 pv.1, .int .i64 pv.2] 69))
   have V4 := kp (Bk.new w3 (.cells #[.int .i64 pv.1, .int .i64 pv.2] 69))
   have hvb := D3.out.keeps.size
   go_upto_region 8 with fail
   generalize w3.alloc (.cells #[.int .i64 pv.1, .int .i64 pv.2] 69) = w4 at *
   generalize w3.heap.size = vb at *
   obtain ⟨q0, q1, q2, qf⟩ := Bk.c3 X4.out
   obtain ⟨f0, f1, f2⟩ := HC2.out w4 D4.out.maker.below
   have HNm := kp (number_any hF D4.out.maker (HX2.out.on D4.out.maker.below))
   have HLim := kp (show -4611686018427387904 ≤ (numberM F.c y2 ps).1 ∧ (numberM F.c y2 ps).1 ≤ 4611686018427387904 by rw [numberM_fst]; exact numR_lim y2)
   have HS2 := kp (show res = opM F.c 11 (if name = sMinus then - (numberM F.c y2 ps).1 else (numberM F.c y2 ps).1) [pv] (numberM F.c y2 ps).2 from HS.out)
   clear HS
   generalize numberM F.c y2 ps = nr at *
   obtain ⟨n, ns⟩ := nr
   go_wp2_with fail
   refine HNm.out.mono ?_
   rintro e w5 ⟨rfl, hk5, A5, c5, hm5, ht5⟩
   have D5 := kp (D4.out.call hk5 hm5 ht5)
   have V5 := kp (D4.out.blk hk5 V4.out hvb)
   clear hk5 hm5 ht5 q0 q1 q2 qf f0 f1 f2
   have DB := kp (D5.out.alloc (.cells #[.int .i64 pv.1, .int .i64 pv.2] 69))
   have NB := kp (Bk.new w5 (.cells #[.int .i64 pv.1, .int .i64 pv.2] 69))
   have hlim := HLim.out
   have hw2 : IntKind.i64.wrap (-n) = -n := IntWalk.i64_in _ (by omega)
   obtain ⟨v0', v1', vf⟩ := Bk.c2 V5.out
   by_cases h5 : name = sMinus
   ·have g5 : (name.toList == [45]) = true := tl_true h5
    replace HS2 := kp (show res = opM F.c 11 (-n) [pv] ns by rw [HS2.out, if_pos h5])
    have HOp := kp (op_any hF DB.out.maker 11 (-n) (I8.of (by decide) (by decide)) ⟨by omega, by omega⟩ 1 (lies_one NB.out VP.out) (by simp))
    rw [← HS2.out] at HOp
    clear h5 hlim HLim
    go_wp2_with fail
    refine HOp.out.mono ?_
    rintro e w7 ⟨rfl, hv, hk7, A7, c7, hm7, ht7⟩
    have D7 := kp (DB.out.call hk7 hm7 ht7)
    unfold valV
    clear hk7 hm7 ht7
    obtain ⟨r0, r1, rf⟩ := Bk.c2 D7.out.cell
    go_wp2_with fail
    refine D7.out.ret (v := res.1) hF Tryz.results79 ?_ ?_ hv <;> rfl
   ·have g5 : (name.toList == [45]) = false := tl_false h5
    replace HS2 := kp (show res = opM F.c 11 n [pv] ns by rw [HS2.out, if_neg h5])
    have HOp := kp (op_any hF DB.out.maker 11 n (I8.of (by decide) (by decide)) ⟨by omega, by omega⟩ 1 (lies_one NB.out VP.out) (by simp))
    rw [← HS2.out] at HOp
    clear h5 hlim HLim
    go_wp2_with fail
    refine HOp.out.mono ?_
    rintro e w7 ⟨rfl, hv, hk7, A7, c7, hm7, ht7⟩
    have D7 := kp (DB.out.call hk7 hm7 ht7)
    unfold valV
    clear hk7 hm7 ht7
    obtain ⟨r0, r1, rf⟩ := Bk.c2 D7.out.cell
    go_wp2_with fail
    refine D7.out.ret (v := res.1) hF Tryz.results79 ?_ ?_ hv <;> rfl
  ·replace HS := kp (HS.out.trans (if_neg h4))
   rw [eq_false_of_ne_true h4] at HNu
   clear h4
   go_wp2_with fail
   refine HNu.out.mono ?_
   rintro e w2 ⟨rfl, hb2⟩
   have D2 := kp (D1.out.below hb2)
   have X2 := kp (Bk.on X1.out hb2)
   clear hb2 q0 q1 q2 qf f0 f1 f2
   obtain ⟨q0, q1, q2, qf⟩ := Bk.c3 X2.out
   obtain ⟨e0, e1, e2⟩ := HC1.out w2 D2.out.maker.below
   have HN1 := kp (isnum_any (HX1.out.on D2.out.maker.below))
   by_cases h5 : name = sPlus
   ·have g5 : (name.toList == [43]) = true := tl_true h5
    by_cases h6 : isNumX y1 = true
    ·replace HS := kp (HS.out.trans (if_pos ⟨h5, h6⟩))
     rw [h6] at HN1
     have HLim := kp (show -4611686018427387904 ≤ (numberM F.c y1 st).1 ∧ (numberM F.c y1 st).1 ≤ 4611686018427387904 by rw [numberM_fst]; exact numR_lim y1)
     clear h5 h6 h3
     go_wp2_with fail
     refine HN1.out.mono ?_
     rintro e w3 ⟨rfl, hb3⟩
     have D3 := kp (D2.out.below hb3)
     have X3 := kp (Bk.on X2.out hb3)
     clear hb3 q0 q1 q2 qf e0 e1 e2
     obtain ⟨q0, q1, q2, qf⟩ := Bk.c3 X3.out
     obtain ⟨e0, e1, e2⟩ := HC1.out w3 D3.out.maker.below
     have HNm := kp (number_any hF D3.out.maker (HX1.out.on D3.out.maker.below))
     generalize numberM F.c y1 st = nr at *
     obtain ⟨n, ns⟩ := nr
     go_wp2_with fail
     refine HNm.out.mono ?_
     rintro e w4 ⟨rfl, hk4, A4, c4, hm4, ht4⟩
     have D4 := kp (D3.out.call hk4 hm4 ht4)
     have X4 := kp (D3.out.blk hk4 X3.out (Nat.le_refl _))
     clear hk4 hm4 ht4 q0 q1 q2 qf e0 e1 e2
     obtain ⟨q0, q1, q2, qf⟩ := Bk.c3 X4.out
     obtain ⟨f0, f1, f2⟩ := HC2.out w4 D4.out.maker.below
     have HC := kp (HT.out _ HM2.out D4.out.maker HX2.out (HE.out.on D4.out.keeps))
     rw [HRf.out] at HC
     generalize r y2 (n, ns).2 = pr at *
     obtain ⟨pv, ps⟩ := pr
     go_wp2_with fail
     refine HC.out.mono ?_
     rintro e w5 ⟨rfl, hv, hk5, A5, c5, hm5, ht5⟩
     have D5 := kp (D4.out.call hk5 hm5 ht5)
     have VP := kp hv
     unfold valV
     clear hv hk5 hm5 ht5 q0 q1 q2 qf f0 f1 f2
     have DB := kp (D5.out.alloc (.cells #[.int .i64 pv.1, .int .i64 pv.2] 69))
     have NB := kp (Bk.new w5 (.cells #[.int .i64 pv.1, .int .i64 pv.2] 69))
     have hlim := HLim.out
     replace HS := kp (show res = opM F.c 11 n [pv] ps from HS.out)
     have HOp := kp (op_any hF DB.out.maker 11 n (I8.of (by decide) (by decide)) ⟨by omega, by omega⟩ 1 (lies_one NB.out VP.out) (by simp))
     rw [← HS.out] at HOp
     clear hlim HLim
     go_wp2_with fail
     refine HOp.out.mono ?_
     rintro e w7 ⟨rfl, hv, hk7, A7, c7, hm7, ht7⟩
     have D7 := kp (DB.out.call hk7 hm7 ht7)
     unfold valV
     clear hk7 hm7 ht7
     obtain ⟨r0, r1, rf⟩ := Bk.c2 D7.out.cell
     go_wp2_with fail
     refine D7.out.ret (v := res.1) hF Tryz.results79 ?_ ?_ hv <;> rfl
    ·replace HS := kp (HS.out.trans (if_neg (fun h => h6 h.2)))
     rw [eq_false_of_ne_true h6] at HN1
     clear h5 h6
     go_wp2_with fail
     refine HN1.out.mono ?_
     rintro e w3 ⟨rfl, hb3⟩
     have D3 := kp (D2.out.below hb3)
     have X3 := kp (Bk.on X2.out hb3)
     clear hb3 q0 q1 q2 qf e0 e1 e2
     obtain ⟨q0, q1, q2, qf⟩ := Bk.c3 X3.out
     have hl2 : x.l.tail.length = x.l.length - 1 := by rw [HTl.out]; simp
     have hc1 : ¬ c = 1 := by omega
     have HAl := kp (all_any hF (l := x.l.tail) (fun y hy => HT.out y (List.mem_of_mem_tail hy)) D3.out.maker (c - 1) (by have h := lies_drop HLc.out.1 1; rwa [← HTl.out] at h) (by omega) (HE.out.on D3.out.keeps))
     rw [show (fun y => termP F.c known y env) = r from funext fun y => funext fun s => HRf.out y s, hl2] at HAl
     have hgl : (1 : Int) ≤ (x.l.length : Int) := by omega
     have hgc : (1 : Int) ≤ (c : Int) := by omega
     clear hl2 h3 hcl3
     go_wp2_with fail
     refine HAl.out.mono ?_
     rintro e w7 ⟨L7, cl7, rfl, hcl7, hcm7, hv, hk7, A7, c7, hm7, ht7⟩
     have D7 := kp (D3.out.call hk7 hm7 ht7)
     clear hv hk7 hm7 ht7 q0 q1 q2 qf hcl7 hcm7
     have HFl := kp (fail_any hF D7.out.maker 34 (by decide))
     rw [show failS 34 _ = res.2 by rw [HS.out]] at HFl
     go_wp2_with fail
     refine HFl.out.mono ?_
     rintro e w8 ⟨rfl, hv, hk8, A8, c8, hm8, ht8⟩
     have D8 := kp (D7.out.call hk8 hm8 ht8)
     unfold valV v0
     clear hk8 hm8 ht8 HFl
     obtain ⟨r0, r1, rf⟩ := Bk.c2 D8.out.cell
     go_wp2_with fail
     rw [show res.1 = v0 by rw [HS.out]]
     refine D8.out.ret (v := v0) hF Tryz.results79 ?_ ?_ v0_VI <;> rfl
   ·have g5 : (name.toList == [43]) = false := tl_false h5
    replace HS := kp (HS.out.trans (if_neg (fun h => h5 h.1)))
    have D3 := D2
    clear h5 HN1
    have hl2 : x.l.tail.length = x.l.length - 1 := by rw [HTl.out]; simp
    have hc1 : ¬ c = 1 := by omega
    have HAl := kp (all_any hF (l := x.l.tail) (fun y hy => HT.out y (List.mem_of_mem_tail hy)) D3.out.maker (c - 1) (by have h := lies_drop HLc.out.1 1; rwa [← HTl.out] at h) (by omega) (HE.out.on D3.out.keeps))
    rw [show (fun y => termP F.c known y env) = r from funext fun y => funext fun s => HRf.out y s, hl2] at HAl
    have hgl : (1 : Int) ≤ (x.l.length : Int) := by omega
    have hgc : (1 : Int) ≤ (c : Int) := by omega
    clear hl2 h3 hcl3
    go_wp2_with fail
    refine HAl.out.mono ?_
    rintro e w7 ⟨L7, cl7, rfl, hcl7, hcm7, hv, hk7, A7, c7, hm7, ht7⟩
    have D7 := kp (D3.out.call hk7 hm7 ht7)
    clear hv hk7 hm7 ht7 q0 q1 q2 qf hcl7 hcm7
    have HFl := kp (fail_any hF D7.out.maker 34 (by decide))
    rw [show failS 34 _ = res.2 by rw [HS.out]] at HFl
    go_wp2_with fail
    refine HFl.out.mono ?_
    rintro e w8 ⟨rfl, hv, hk8, A8, c8, hm8, ht8⟩
    have D8 := kp (D7.out.call hk8 hm8 ht8)
    unfold valV v0
    clear hk8 hm8 ht8 HFl
    obtain ⟨r0, r1, rf⟩ := Bk.c2 D8.out.cell
    go_wp2_with fail
    rw [show res.1 = v0 by rw [HS.out]]
    refine D8.out.ret (v := v0) hF Tryz.results79 ?_ ?_ v0_VI <;> rfl
 ·have g2 : ((x.l.length : Int) != 3) = true := by rw [bne_iff_ne]; omega
  replace HS := kp (HS.out.trans (if_pos h3))
  have D7 := D1
  clear h1 h3
  rcases HG.out with g1 | ⟨g1, g3⟩
  ·skip
   have HFl := kp (fail_any hF D7.out.maker 30 (by decide))
   rw [show failS 30 _ = res.2 by rw [HS.out]] at HFl
   go_wp2_with fail
   refine HFl.out.mono ?_
   rintro e w8 ⟨rfl, hv, hk8, A8, c8, hm8, ht8⟩
   have D8 := kp (D7.out.call hk8 hm8 ht8)
   unfold valV v0
   clear hk8 hm8 ht8 HFl
   obtain ⟨r0, r1, rf⟩ := Bk.c2 D8.out.cell
   go_wp2_with fail
   rw [show res.1 = v0 by rw [HS.out]]
   refine D8.out.ret (v := v0) hF Tryz.results79 ?_ ?_ v0_VI <;> rfl
  ·skip
   have HFl := kp (fail_any hF D7.out.maker 30 (by decide))
   rw [show failS 30 _ = res.2 by rw [HS.out]] at HFl
   go_wp2_with fail
   refine HFl.out.mono ?_
   rintro e w8 ⟨rfl, hv, hk8, A8, c8, hm8, ht8⟩
   have D8 := kp (D7.out.call hk8 hm8 ht8)
   unfold valV v0
   clear hk8 hm8 ht8 HFl
   obtain ⟨r0, r1, rf⟩ := Bk.c2 D8.out.cell
   go_wp2_with fail
   rw [show res.1 = v0 by rw [HS.out]]
   refine D8.out.ret (v := v0) hF Tryz.results79 ?_ ?_ v0_VI <;> rfl
end Go.Proofs.YtpmdcckapddchaaGreat.El
/- The core's names: how each is made, and of how many terms. -/
namespace Go.Proofs.YtpmdcckapddchaaGreat.El
open Go.RowKit Go.Maps Go.Proofs.YtpmdcckapddchaaGreat.Dt Go.Proofs.YtpmdcckapddchaaGreat.Sg

theorem str_inj (x y : ByteArray) (h : Value.string x = .string y) : x = y := by injection h
def fnW (k : Nat) : FuncId :=
 if k = 0 then 121
 else if k = 1 then 122
 else if k = 2 then 123
 else if k = 3 then 124
 else if k = 4 then 125
 else if k = 5 then 126
 else if k = 6 then 127
 else if k = 7 then 128
 else if k = 8 then 129
 else if k = 9 then 130
 else if k = 10 then 131
 else 132
def fnV (k : Nat) : Value := .func (.func (fnW k)) #[] #[]
def waysF : ByteArray → Option Value := fun x => if x = sGt then some (.agg #[.int .i64 2, .int .i64 2, .func (.func 132) #[] #[]]) else if x = sGe then some (.agg #[.int .i64 2, .int .i64 2, .func (.func 131) #[] #[]]) else if x = sLt then some (.agg #[.int .i64 2, .int .i64 2, .func (.func 130) #[] #[]]) else if x = sLe then some (.agg #[.int .i64 2, .int .i64 2, .func (.func 129) #[] #[]]) else if x = sIte then some (.agg #[.int .i64 3, .int .i64 3, .func (.func 128) #[] #[]]) else if x = sDistinct then some (.agg #[.int .i64 2, .int .i64 1048576, .func (.func 127) #[] #[]]) else if x = sEq then some (.agg #[.int .i64 2, .int .i64 1048576, .func (.func 126) #[] #[]]) else if x = sImp then some (.agg #[.int .i64 2, .int .i64 1048576, .func (.func 125) #[] #[]]) else if x = sXor then some (.agg #[.int .i64 2, .int .i64 1048576, .func (.func 124) #[] #[]]) else if x = sOr then some (.agg #[.int .i64 2, .int .i64 1048576, .func (.func 123) #[] #[]]) else if x = sAnd then some (.agg #[.int .i64 2, .int .i64 1048576, .func (.func 122) #[] #[]]) else if x = sNot then some (.agg #[.int .i64 1, .int .i64 1, .func (.func 121) #[] #[]]) else none
def wayR : Option (Nat × Nat × Nat) → Value
 | none => .agg #[.int .i64 0, .int .i64 0, .nilFunc]
 | some (k, lo, hi) => .agg #[.int .i64 (lo : Int), .int .i64 (hi : Int), fnV k]
theorem waysF_eq (s : ByteArray) : waysF s = (wayN s).map fun p => wayR (some p) := by
 by_cases e0 : s = sNot
 ·subst e0; rfl
 by_cases e1 : s = sAnd
 ·subst e1; rfl
 by_cases e2 : s = sOr
 ·subst e2; rfl
 by_cases e3 : s = sXor
 ·subst e3; rfl
 by_cases e4 : s = sImp
 ·subst e4; rfl
 by_cases e5 : s = sEq
 ·subst e5; rfl
 by_cases e6 : s = sDistinct
 ·subst e6; rfl
 by_cases e7 : s = sIte
 ·subst e7; rfl
 by_cases e8 : s = sLe
 ·subst e8; rfl
 by_cases e9 : s = sLt
 ·subst e9; rfl
 by_cases e10 : s = sGe
 ·subst e10; rfl
 by_cases e11 : s = sGt
 ·subst e11; rfl
 unfold waysF wayN
 rw [if_neg e11]
 rw [if_neg e10]
 rw [if_neg e9]
 rw [if_neg e8]
 rw [if_neg e7]
 rw [if_neg e6]
 rw [if_neg e5]
 rw [if_neg e4]
 rw [if_neg e3]
 rw [if_neg e2]
 rw [if_neg e1]
 rw [if_neg e0]
 rw [if_neg e0]
 rw [if_neg e1]
 rw [if_neg e2]
 rw [if_neg e3]
 rw [if_neg e4]
 rw [if_neg e5]
 rw [if_neg e6]
 rw [if_neg e7]
 rw [if_neg e8]
 rw [if_neg e9]
 rw [if_neg e10]
 rw [if_neg e11]
 rfl
theorem zero_way (w : World) : (zeroValue 131).run Tryz.prog w = .ok (.agg #[.int .i64 0, .int .i64 0, .nilFunc]) w := by kernel_rfl
theorem look_ways {w : World} {m n : Nat} (h : KeyMap 9 Value.string w m n waysF) (name : ByteArray) (hs : (name.size : Int) ≤ 140737488351232) :
  (Instr.lookup 167 (.map (some m)) (.string name) true).run Tryz.prog w = .ok (.tuple #[wayR (wayN name), .bool (wayN name).isSome]) w := by
 rw [h.look (a := name) string_key Tryz.underlying167 (zero_way w) (keyOf_str hs), waysF_eq]
 cases wayN name <;> rfl
theorem ways_ret {f : Func} {w : World} {b : Nat} {x y z : Value} {o : Bool} {act : Act} {R : Ending → World → Prop} (hf : f.results = #[.cell 2 131, .tmp 3]) (hb : w.heap[b]? = some (.cells #[x, y, z] 131 (0, 0))) (h2 : act.tmps[2]? = some (.pointer (some ⟨b, 0, none⟩))) (h3 : act.tmps[3]? = some (.bool o)) (hd : act.defers = []) (hR : R (.returned (.tuple #[.agg #[x, y, z], .bool o])) w) :
  bodyPost Tryz.prog f R .ret act w := by
 obtain ⟨y0, y1, y2, _⟩ := Bk.c3 hb
 refine bodyPost_ret (v := .tuple #[.agg #[x, y, z], .bool o]) ?_ hd hR
 simp [results, hf, go_sem, y0, y1, y2, h2, h3]
def WaysPost (name : ByteArray) (w : World) (e : Ending) (w' : World) : Prop := e = .returned (.tuple #[wayR (wayN name), .bool (wayN name).isSome]) ∧ Below w.heap.size w w'
set_option maxRecDepth 100000 in
set_option maxHeartbeats 6400000 in
theorem ways_any {w : World} (name : ByteArray) (hs : (name.size : Int) ≤ 140737488351232) : Calls Tryz.prog 80 #[.string name] w (WaysPost name w) := by
 have RB := kp (Bk.new w (.cells #[.int .i64 0, .int .i64 0, .nilFunc] 131))
 have B1 := kp ((Below.refl w.heap.size w).alloc (Nat.le_refl _) (.cells #[.int .i64 0, .int .i64 0, .nilFunc] 131))
 have HP := kp (show ∀ e w', e = .returned (.tuple #[wayR (wayN name), .bool (wayN name).isSome]) → Below w.heap.size w w' → WaysPost name w e w' from fun e w' h1 h2 => ⟨h1, h2⟩)
 generalize WaysPost name w = PP at *
 go_enter Tryz.func80, Tryz.ntmps80
 go_upto_region 1 with fail
 generalize w.alloc (.cells #[.int .i64 0, .int .i64 0, .nilFunc] 131) = w3 at *
 have M0 := kp (KeyMap.made (kt := 9) (key := Value.string) w3)
 have K0 := kp (show Keeps (fun k => k = w3.heap.size) w3 (w3.alloc (.map #[] 0)) from (Keeps.refl _ _).alloc _)
 generalize hv0 : w3.alloc (.map #[] 0) = v0 at *
 obtain ⟨v1, u1, m1, g1⟩ := KeyMap.store (a := sNot) (t := 167) (e := 131) M0.out string_key str_inj Tryz.underlying167 (by decide) (keyOf_str (by decide)) (.agg #[.int .i64 1, .int .i64 1, .func (.func 121) #[] #[]])
 replace u1 : (Instr.mapUpdate 167 (.map (some w3.heap.size)) (.string { data := #[110, 111, 116] }) (.agg #[.int .i64 1, .int .i64 1, .func (.func 121) #[] #[]])).run Tryz.prog v0 = .ok () v1 := u1
 have M1 := kp m1
 have K1 := kp (K0.out.grown g1 (fun k hk => .inl (Option.some.inj hk).symm))
 clear m1 g1
 obtain ⟨v2, u2, m2, g2⟩ := KeyMap.store (a := sAnd) (t := 167) (e := 131) M1.out string_key str_inj Tryz.underlying167 (by decide) (keyOf_str (by decide)) (.agg #[.int .i64 2, .int .i64 1048576, .func (.func 122) #[] #[]])
 replace u2 : (Instr.mapUpdate 167 (.map (some w3.heap.size)) (.string { data := #[97, 110, 100] }) (.agg #[.int .i64 2, .int .i64 1048576, .func (.func 122) #[] #[]])).run Tryz.prog v1 = .ok () v2 := u2
 have M2 := kp m2
 have K2 := kp (K1.out.grown g2 (fun k hk => .inl (Option.some.inj hk).symm))
 clear m2 g2
 obtain ⟨v3, u3, m3, g3⟩ := KeyMap.store (a := sOr) (t := 167) (e := 131) M2.out string_key str_inj Tryz.underlying167 (by decide) (keyOf_str (by decide)) (.agg #[.int .i64 2, .int .i64 1048576, .func (.func 123) #[] #[]])
 replace u3 : (Instr.mapUpdate 167 (.map (some w3.heap.size)) (.string { data := #[111, 114] }) (.agg #[.int .i64 2, .int .i64 1048576, .func (.func 123) #[] #[]])).run Tryz.prog v2 = .ok () v3 := u3
 have M3 := kp m3
 have K3 := kp (K2.out.grown g3 (fun k hk => .inl (Option.some.inj hk).symm))
 clear m3 g3
 obtain ⟨v4, u4, m4, g4⟩ := KeyMap.store (a := sXor) (t := 167) (e := 131) M3.out string_key str_inj Tryz.underlying167 (by decide) (keyOf_str (by decide)) (.agg #[.int .i64 2, .int .i64 1048576, .func (.func 124) #[] #[]])
 replace u4 : (Instr.mapUpdate 167 (.map (some w3.heap.size)) (.string { data := #[120, 111, 114] }) (.agg #[.int .i64 2, .int .i64 1048576, .func (.func 124) #[] #[]])).run Tryz.prog v3 = .ok () v4 := u4
 have M4 := kp m4
 have K4 := kp (K3.out.grown g4 (fun k hk => .inl (Option.some.inj hk).symm))
 clear m4 g4
 obtain ⟨v5, u5, m5, g5⟩ := KeyMap.store (a := sImp) (t := 167) (e := 131) M4.out string_key str_inj Tryz.underlying167 (by decide) (keyOf_str (by decide)) (.agg #[.int .i64 2, .int .i64 1048576, .func (.func 125) #[] #[]])
 replace u5 : (Instr.mapUpdate 167 (.map (some w3.heap.size)) (.string { data := #[61, 62] }) (.agg #[.int .i64 2, .int .i64 1048576, .func (.func 125) #[] #[]])).run Tryz.prog v4 = .ok () v5 := u5
 have M5 := kp m5
 have K5 := kp (K4.out.grown g5 (fun k hk => .inl (Option.some.inj hk).symm))
 clear m5 g5
 obtain ⟨v6, u6, m6, g6⟩ := KeyMap.store (a := sEq) (t := 167) (e := 131) M5.out string_key str_inj Tryz.underlying167 (by decide) (keyOf_str (by decide)) (.agg #[.int .i64 2, .int .i64 1048576, .func (.func 126) #[] #[]])
 replace u6 : (Instr.mapUpdate 167 (.map (some w3.heap.size)) (.string { data := #[61] }) (.agg #[.int .i64 2, .int .i64 1048576, .func (.func 126) #[] #[]])).run Tryz.prog v5 = .ok () v6 := u6
 have M6 := kp m6
 have K6 := kp (K5.out.grown g6 (fun k hk => .inl (Option.some.inj hk).symm))
 clear m6 g6
 obtain ⟨v7, u7, m7, g7⟩ := KeyMap.store (a := sDistinct) (t := 167) (e := 131) M6.out string_key str_inj Tryz.underlying167 (by decide) (keyOf_str (by decide)) (.agg #[.int .i64 2, .int .i64 1048576, .func (.func 127) #[] #[]])
 replace u7 : (Instr.mapUpdate 167 (.map (some w3.heap.size)) (.string { data := #[100, 105, 115, 116, 105, 110, 99, 116] }) (.agg #[.int .i64 2, .int .i64 1048576, .func (.func 127) #[] #[]])).run Tryz.prog v6 = .ok () v7 := u7
 have M7 := kp m7
 have K7 := kp (K6.out.grown g7 (fun k hk => .inl (Option.some.inj hk).symm))
 clear m7 g7
 obtain ⟨v8, u8, m8, g8⟩ := KeyMap.store (a := sIte) (t := 167) (e := 131) M7.out string_key str_inj Tryz.underlying167 (by decide) (keyOf_str (by decide)) (.agg #[.int .i64 3, .int .i64 3, .func (.func 128) #[] #[]])
 replace u8 : (Instr.mapUpdate 167 (.map (some w3.heap.size)) (.string { data := #[105, 116, 101] }) (.agg #[.int .i64 3, .int .i64 3, .func (.func 128) #[] #[]])).run Tryz.prog v7 = .ok () v8 := u8
 have M8 := kp m8
 have K8 := kp (K7.out.grown g8 (fun k hk => .inl (Option.some.inj hk).symm))
 clear m8 g8
 obtain ⟨v9, u9, m9, g9⟩ := KeyMap.store (a := sLe) (t := 167) (e := 131) M8.out string_key str_inj Tryz.underlying167 (by decide) (keyOf_str (by decide)) (.agg #[.int .i64 2, .int .i64 2, .func (.func 129) #[] #[]])
 replace u9 : (Instr.mapUpdate 167 (.map (some w3.heap.size)) (.string { data := #[60, 61] }) (.agg #[.int .i64 2, .int .i64 2, .func (.func 129) #[] #[]])).run Tryz.prog v8 = .ok () v9 := u9
 have M9 := kp m9
 have K9 := kp (K8.out.grown g9 (fun k hk => .inl (Option.some.inj hk).symm))
 clear m9 g9
 obtain ⟨v10, u10, m10, g10⟩ := KeyMap.store (a := sLt) (t := 167) (e := 131) M9.out string_key str_inj Tryz.underlying167 (by decide) (keyOf_str (by decide)) (.agg #[.int .i64 2, .int .i64 2, .func (.func 130) #[] #[]])
 replace u10 : (Instr.mapUpdate 167 (.map (some w3.heap.size)) (.string { data := #[60] }) (.agg #[.int .i64 2, .int .i64 2, .func (.func 130) #[] #[]])).run Tryz.prog v9 = .ok () v10 := u10
 have M10 := kp m10
 have K10 := kp (K9.out.grown g10 (fun k hk => .inl (Option.some.inj hk).symm))
 clear m10 g10
 obtain ⟨v11, u11, m11, g11⟩ := KeyMap.store (a := sGe) (t := 167) (e := 131) M10.out string_key str_inj Tryz.underlying167 (by decide) (keyOf_str (by decide)) (.agg #[.int .i64 2, .int .i64 2, .func (.func 131) #[] #[]])
 replace u11 : (Instr.mapUpdate 167 (.map (some w3.heap.size)) (.string { data := #[62, 61] }) (.agg #[.int .i64 2, .int .i64 2, .func (.func 131) #[] #[]])).run Tryz.prog v10 = .ok () v11 := u11
 have M11 := kp m11
 have K11 := kp (K10.out.grown g11 (fun k hk => .inl (Option.some.inj hk).symm))
 clear m11 g11
 obtain ⟨v12, u12, m12, g12⟩ := KeyMap.store (a := sGt) (t := 167) (e := 131) M11.out string_key str_inj Tryz.underlying167 (by decide) (keyOf_str (by decide)) (.agg #[.int .i64 2, .int .i64 2, .func (.func 132) #[] #[]])
 replace u12 : (Instr.mapUpdate 167 (.map (some w3.heap.size)) (.string { data := #[62] }) (.agg #[.int .i64 2, .int .i64 2, .func (.func 132) #[] #[]])).run Tryz.prog v11 = .ok () v12 := u12
 have M12 := kp m12
 have K12 := kp (K11.out.grown g12 (fun k hk => .inl (Option.some.inj hk).symm))
 clear m12 g12
 have hmm := @run_makeMap Tryz.prog
 subst hv0
 have HM := kp (show KeyMap 9 Value.string v12 w3.heap.size 12 waysF from M12.out)
 have B13 := kp (K12.out.below (B := w3.heap.size) (fun k e => by subst e; exact Nat.le_refl _) (Nat.le_refl _))
 have hlk := look_ways HM.out name hs
 have R13 := kp (Bk.on RB.out B13.out)
 have BW := kp (B1.out.trans (B13.out.mono B1.out.size))
 clear M0 M1 M2 M3 M4 M5 M6 M7 M8 M9 M10 M11 M12 K0 K1 K2 K3 K4 K5 K6 K7 K8 K9 K10 K11 K12 RB B1 HM B13
 have hsn := fun (a : Addr) (m : Mode) (w : World) => run_store Tryz.prog w a .nilFunc m rfl
 have hsf := fun (a : Addr) (m : Mode) (w : World) (fn : Fn) (x y : Array Value) => run_store Tryz.prog w a (.func fn x y) m rfl
 cases hwn : wayN name with
 | none =>
  rw [hwn] at hlk HP
  replace hlk : (Instr.lookup 167 (.map (some w3.heap.size)) (.string name) true).run Tryz.prog v12 = .ok (.tuple #[.agg #[.int .i64 0, .int .i64 0, .nilFunc], .bool false]) v12 := hlk
  obtain ⟨r0, r1, r2, rf⟩ := Bk.c3 R13.out
  go_wp2_with fail
  exact ways_ret Tryz.results80 (Bk.set_at (Bk.set_at (Bk.set_at (Bk.set_at (Bk.set_at (Bk.set_at R13.out 0 _) 1 _) 2 _) 0 _) 1 _) 2 _) rfl rfl rfl (HP.out _ _ rfl ((((((BW.out.setCell (p := ⟨w.heap.size, 0, none⟩) (Nat.le_refl _) _).setCell (p := ⟨w.heap.size, 1, none⟩) (Nat.le_refl _) _).setCell (p := ⟨w.heap.size, 2, none⟩) (Nat.le_refl _) _).setCell (p := ⟨w.heap.size, 0, none⟩) (Nat.le_refl _) _).setCell (p := ⟨w.heap.size, 1, none⟩) (Nat.le_refl _) _).setCell (p := ⟨w.heap.size, 2, none⟩) (Nat.le_refl _) _))
 | some p =>
  obtain ⟨k, lo, hi⟩ := p
  rw [hwn] at hlk HP
  replace hlk : (Instr.lookup 167 (.map (some w3.heap.size)) (.string name) true).run Tryz.prog v12 = .ok (.tuple #[.agg #[.int .i64 (lo : Int), .int .i64 (hi : Int), fnV k], .bool true]) v12 := hlk
  obtain ⟨r0, r1, r2, rf⟩ := Bk.c3 R13.out
  obtain ⟨fv, hfv⟩ : ∃ fv, fnW k = fv := ⟨_, rfl⟩
  unfold fnV at hlk
  rw [hfv] at hlk
  go_wp2_with fail
  exact ways_ret Tryz.results80 (Bk.set_at (Bk.set_at (Bk.set_at (Bk.set_at (Bk.set_at (Bk.set_at R13.out 0 _) 1 _) 2 _) 0 _) 1 _) 2 _) rfl rfl rfl (HP.out _ _ (by rw [← hfv]; rfl) ((((((BW.out.setCell (p := ⟨w.heap.size, 0, none⟩) (Nat.le_refl _) _).setCell (p := ⟨w.heap.size, 1, none⟩) (Nat.le_refl _) _).setCell (p := ⟨w.heap.size, 2, none⟩) (Nat.le_refl _) _).setCell (p := ⟨w.heap.size, 0, none⟩) (Nat.le_refl _) _).setCell (p := ⟨w.heap.size, 1, none⟩) (Nat.le_refl _) _).setCell (p := ⟨w.heap.size, 2, none⟩) (Nat.le_refl _) _))
end Go.Proofs.YtpmdcckapddchaaGreat.El
/- A comparison of a difference, if each part is told of. -/
namespace Go.Proofs.YtpmdcckapddchaaGreat.El
open Go.RowKit Go.Maps Go.Proofs.YtpmdcckapddchaaGreat.Dt Go.Proofs.YtpmdcckapddchaaGreat.Sg

section
variable {F : Fix} {known : Int} {w wr W W7 : World} {st' s7 : St} {t : List Node} {At A' A7 : Option Addr} {rb c' c7 ab bb : Nat} {pv qv : V}
structure Dm (F : Fix) (known : Int) (w : World) (t : List Node) (At : Option Addr) (rb : Nat) (wr W : World) (st' : St) (A' : Option Addr) (c' : Nat) : Prop where
 mid : Mid F known w t At rb W st' A' c'
 keepsW : Keeps (onMb F) wr W
 rlt : rb < wr.heap.size
 lew : w.heap.size ≤ wr.heap.size
theorem Dm.alloc (h : Dm F known w t At rb wr W st' A' c') (o : Obj) : Dm F known w t At rb wr (W.alloc o) st' A' c' := ⟨h.mid.alloc o, h.keepsW.alloc o, h.rlt, h.lew⟩
theorem Dm.call (h : Dm F known w t At rb wr W st' A' c') (hk : Keeps (onMb F) W W7) (hm : Mk F W7 known s7 A7 c7) (ht : TN W.heap.size st'.t A' s7.t A7) : Dm F known w t At rb wr W7 s7 A7 c7 := ⟨h.mid.call hk hm ht, h.keepsW.trans_same hk, h.rlt, h.lew⟩
structure Ab (wr W : World) (st' : St) (A' : Option Addr) (ab : Nat) : Prop where
 cell : W.heap[ab]? = some (.cells #[.int .i64 0, .int .i64 0] 69 (0, 0))
 le : wr.heap.size ≤ ab
 far : Far ab st'.t A'
theorem Ab.lt (h : Ab wr W st' A' ab) : ab < W.heap.size := lt_of_block h.cell
theorem Ab.new (h : Dm F known w t At rb wr W st' A' c') : Ab wr (W.alloc (.cells #[.int .i64 0, .int .i64 0] 69)) st' A' W.heap.size := ⟨Bk.new W _, h.keepsW.size, h.mid.fresh (Nat.le_refl _)⟩
theorem Ab.alloc (h : Ab wr W st' A' ab) (o : Obj) : Ab wr (W.alloc o) st' A' ab := ⟨Bk.keep h.cell o, h.le, h.far⟩
theorem Ab.call (h : Ab wr W st' A' ab) (d : Dm F known w t At rb wr W st' A' c') (hk : Keeps (onMb F) W W7) (ht : TN W.heap.size st'.t A' s7.t A7) : Ab wr W7 s7 A7 ab :=
 ⟨d.mid.blk hk h.cell (Nat.le_trans d.lew h.le), h.le, Far.of_tn h.far ht h.lt⟩
def DfQ (F : Fix) (known : Int) (w : World) (t : List Node) (At : Option Addr) (rb : Nat) (wr : World) (pv qv : V) (st' : St) (ab bb : Nat) (W : World) : Prop :=
 ∃ A' c', Mid F known w t At rb W st' A' c' ∧ Keeps (onMb F) wr W ∧ W.heap[ab]? = some (.cells #[.int .i64 pv.1, .int .i64 pv.2] 69 (0, 0)) ∧ W.heap[bb]? = some (.cells #[.int .i64 qv.1, .int .i64 qv.2] 69 (0, 0)) ∧ wr.heap.size ≤ ab ∧ wr.heap.size ≤ bb ∧ VI pv ∧ VI qv
theorem Dm.setK (h : Dm F known w t At rb wr W st' A' c') (ha : Ab wr W st' A' ab) (pv : V) : Keeps (onMb F) wr ((W.setCell ⟨ab, 0, none⟩ (.int .i64 pv.1)).setCell ⟨ab, 1, none⟩ (.int .i64 pv.2)) :=
 (h.keepsW.setCell (p := ⟨ab, 0, none⟩) (.inr ha.le) _).setCell (p := ⟨ab, 1, none⟩) (.inr ha.le) _
theorem Dm.setK2 (h : Dm F known w t At rb wr W st' A' c') (ha : Ab wr W st' A' ab) (hb : Ab wr W st' A' bb) (pv qv : V) : Keeps (onMb F) wr ((((W.setCell ⟨ab, 0, none⟩ (.int .i64 pv.1)).setCell ⟨ab, 1, none⟩ (.int .i64 pv.2)).setCell ⟨bb, 0, none⟩ (.int .i64 qv.1)).setCell ⟨bb, 1, none⟩ (.int .i64 qv.2)) :=
 ((h.setK ha pv).setCell (p := ⟨bb, 0, none⟩) (.inr hb.le) _).setCell (p := ⟨bb, 1, none⟩) (.inr hb.le) _
theorem Dm.fin (hF : FixOk F) (h : Dm F known w t At rb wr W st' A' c') (ha : Ab wr W st' A' ab) (hb : Ab wr W st' A' bb) (hne : ab ≠ bb) (hp : VI pv) (hq : VI qv) : DfQ F known w t At rb wr pv qv st' ab bb ((((W.setCell ⟨ab, 0, none⟩ (.int .i64 pv.1)).setCell ⟨ab, 1, none⟩ (.int .i64 pv.2)).setCell ⟨bb, 0, none⟩ (.int .i64 qv.1)).setCell ⟨bb, 1, none⟩ (.int .i64 qv.2)) := by
 have h1 := h.rlt
 have h2 := ha.le
 have h3 := hb.le
 have h4 := h.lew
 refine ⟨A', c', ?_, h.setK2 ha hb pv qv, ?_, ?_, h2, h3, hp, hq⟩
 ·exact (((h.mid.other hF (by omega) (by omega) ha.far 0 _).other hF (by omega) (by omega) ha.far 1 _).other hF (by omega) (by omega) hb.far 0 _).other hF (by omega) (by omega) hb.far 1 _
 ·exact Bk.apart (Bk.apart (Bk.set_at (Bk.set_at ha.cell 0 _) 1 _) (p := ⟨bb, 0, none⟩) hne _) (p := ⟨bb, 1, none⟩) hne _
 ·exact Bk.set_at (Bk.set_at (Bk.apart (Bk.apart hb.cell (p := ⟨ab, 0, none⟩) (Ne.symm hne) _) (p := ⟨ab, 1, none⟩) (Ne.symm hne) _) 0 _) 1 _
end
def BxQ (w1 : World) (A1 : Option Addr) (c1 : Nat) (y1 : Sexp) (A2 : Option Addr) (c2 : Nat) (y2 : Sexp) (lb rr : Nat) (W : World) : Prop :=
 W.heap[lb]? = some (.cells #[.int .i8 y1.kind, .string y1.text, .slice A1 y1.l.length c1] 30 (0, 0)) ∧ W.heap[rr]? = some (.cells #[.int .i8 y2.kind, .string y2.text, .slice A2 y2.l.length c2] 30 (0, 0)) ∧ w1.heap.size ≤ lb ∧ w1.heap.size ≤ rr ∧ Below w1.heap.size w1 W
theorem box_made {w1 W : World} {A1 A2 : Option Addr} {c1 c2 : Nat} {y1 y2 : Sexp} {lb rr : Nat} (hb : Below w1.heap.size w1 W) (h1 : W.heap[lb]? = some (.cells #[.int .i8 0, .string { data := #[] }, .slice none 0 0] 30 (0, 0))) (h2 : W.heap[rr]? = some (.cells #[.int .i8 0, .string { data := #[] }, .slice none 0 0] 30 (0, 0))) (hne : lb ≠ rr) (hl : w1.heap.size ≤ lb) (hr : w1.heap.size ≤ rr) :
  BxQ w1 A1 c1 y1 A2 c2 y2 lb rr ((((((W.setCell ⟨lb, 0, none⟩ (.int .i8 y1.kind)).setCell ⟨lb, 1, none⟩ (.string y1.text)).setCell ⟨lb, 2, none⟩ (.slice A1 y1.l.length c1)).setCell ⟨rr, 0, none⟩ (.int .i8 y2.kind)).setCell ⟨rr, 1, none⟩ (.string y2.text)).setCell ⟨rr, 2, none⟩ (.slice A2 y2.l.length c2)) :=
 ⟨Bk.apart (Bk.apart (Bk.apart (Bk.set_at (Bk.set_at (Bk.set_at h1 0 _) 1 _) 2 _) (p := ⟨rr, 0, none⟩) hne _) (p := ⟨rr, 1, none⟩) hne _) (p := ⟨rr, 2, none⟩) hne _,
  Bk.set_at (Bk.set_at (Bk.set_at (Bk.apart (Bk.apart (Bk.apart h2 (p := ⟨lb, 0, none⟩) (Ne.symm hne) _) (p := ⟨lb, 1, none⟩) (Ne.symm hne) _) (p := ⟨lb, 2, none⟩) (Ne.symm hne) _) 0 _) 1 _) 2 _, hl, hr,
  (((((hb.setCell (p := ⟨lb, 0, none⟩) hl _).setCell (p := ⟨lb, 1, none⟩) hl _).setCell (p := ⟨lb, 2, none⟩) hl _).setCell (p := ⟨rr, 0, none⟩) hr _).setCell (p := ⟨rr, 1, none⟩) hr _).setCell (p := ⟨rr, 2, none⟩) hr _⟩
theorem contains_cmp (name : ByteArray) : Lib.containsS ([sLe, sLt, sGe, sGt, sEq].take 5) name = comparesB name := by
 rw [Bool.eq_iff_iff, Lib.containsS_iff]
 unfold comparesB
 simp only [List.take_succ_cons, List.take_zero, List.mem_cons, List.not_mem_nil, or_false, Bool.or_eq_true, decide_eq_true_eq, or_assoc]
def diffO (c : Cx) (r : Sexp → St → V × St) (name : ByteArray) (x : Sexp) (st : St) : (V × Bool) × St :=
 if differsN name x = 1 then (((diffLM c r name x st).1, true), (diffLM c r name x st).2)
 else if differsN name x = 2 then (((diffRM c r name x st).1, true), (diffRM c r name x st).2)
 else ((v0, false), st)
def DfPost (F : Fix) (known : Int) (w : World) (t : List Node) (At : Option Addr) (q : V × Bool) (st' : St) (e : Ending) (w' : World) : Prop :=
 e = .returned (.tuple #[valV q.1, .bool q.2]) ∧ VI q.1 ∧ Keeps (onMb F) w w' ∧ ∃ A' c', Mk F w' known st' A' c' ∧ TN w.heap.size t At st'.t A'
theorem Mid.ret2 {F : Fix} {known : Int} {w W : World} {st' : St} {t : List Node} {At A' : Option Addr} {rb c' : Nat} (hF : FixOk F) (h : Mid F known w t At rb W st' A' c') {f : Func} {v : V} {o : Bool} {act : Act} (hf : f.results = #[.cell 8 69, .tmp 9]) (h2 : act.tmps[8]? = some (.pointer (some ⟨rb, 0, none⟩))) (h3 : act.tmps[9]? = some (.bool o)) (hd : act.defers = []) (hv : VI v) :
  bodyPost Tryz.prog f (DfPost F known w t At (v, o) st') .ret act ((W.setCell ⟨rb, 0, none⟩ (.int .i64 v.1)).setCell ⟨rb, 1, none⟩ (.int .i64 v.2)) := by
 have hb := Bk.set_at (Bk.set_at h.cell 0 (.int .i64 v.1)) 1 (.int .i64 v.2)
 obtain ⟨y0, y1, _⟩ := Bk.c2 (a0 := .int .i64 v.1) (a1 := .int .i64 v.2) hb
 refine bodyPost_ret (v := .tuple #[.agg #[.int .i64 v.1, .int .i64 v.2], .bool o]) ?_ hd ?_
 ·simp [results, hf, go_sem, y0, y1, h2, h3]
 ·exact ⟨rfl, hv, (h.keeps.setCell (p := ⟨rb, 0, none⟩) (.inr h.le) _).setCell (p := ⟨rb, 1, none⟩) (.inr h.le) _, A', c', (h.maker.other hF (by have := h.lt; have := h.le; omega) h.far 0 _).other hF (by have := h.lt; have := h.le; omega) h.far 1 _, h.tn⟩
theorem minus_len {x : Sexp} (h : minusB x = true) : x.l.length = 3 := by
 unfold minusB at h
 simp only [Bool.and_eq_true, decide_eq_true_eq] at h
 exact h.1.2
end Go.Proofs.YtpmdcckapddchaaGreat.El
