import Derived.Test.YtpmdcckapddchaaGreatShort
import Derived.Test.YtpmdcckapddchaaGreatMl
import Derived.Test.YtpmdcckapddchaaGreatMo
import Derived.Test.YtpmdcckapddchaaGreatMf
import Derived.Test.YtpmdcckapddchaaGreatBase
import Derived.Deep.RegionHeld3
/- merged by wip/merge.py from: ElNumM ElDiff HeldM ElHeld -/
/- A numeral, and its number for a maker. -/
namespace Go.Proofs.YtpmdcckapddchaaGreat.El
open Go.RowKit Go.Maps Go.Proofs.YtpmdcckapddchaaGreat.Dt Go.Proofs.YtpmdcckapddchaaGreat.Sg

theorem isNumX_eq (x : Sexp) : isNumX x = (numR x).2.1 := by
 unfold isNumX numR
 cases numN x <;> rfl
theorem numR_lim (x : Sexp) : -4611686018427387904 ≤ (numR x).1 ∧ (numR x).1 ≤ 4611686018427387904 := by
 unfold numR
 cases h : numN x with
 | none => simp only; omega
 | some p =>
  unfold numN at h
  simp only
  have hx := parseV_lim (Lx.bs x.text)
  split at h
  ·cases h; simp only; omega
  ·split at h
   ·split at h
    ·rename_i y _
     have hy := parseV_lim (Lx.bs y.text)
     split at h
     ·cases h; simp only; omega
     ·cases h
    ·cases h
   ·cases h
theorem numberM_fst (c : Cx) (x : Sexp) (st : St) : (numberM c x st).1 = (numR x).1 := by
 unfold numberM numR
 cases numN x <;> rfl
theorem numberM_snd (c : Cx) (x : Sexp) (st : St) : (numberM c x st).2 = if (numR x).2.2 ≠ 0 ∧ c.build = true then failS (numR x).2.2 st else st := by
 unfold numberM numR
 cases h : numN x <;> simp
theorem isnum_any {w : World} {A : Option Addr} {c : Nat} {x : Sexp} (h : XAt w A c x) :
  Calls Tryz.prog 45 #[.agg #[.int .i8 x.kind, .string x.text, .slice A x.l.length c]] w fun e w' => e = .returned (.bool (isNumX x)) ∧ Below w.heap.size w w' := by
 rw [isNumX_eq]
 have XB := kp (Bk.new w (.cells #[.int .i8 x.kind, .string x.text, .slice A x.l.length c] 30))
 have B1 := kp ((Below.refl w.heap.size w).alloc (Nat.le_refl _) (.cells #[.int .i8 x.kind, .string x.text, .slice A x.l.length c] 30))
 have HN := kp (fun W (hW : Below w.heap.size w W) => numeralX_any (h.on hW))
 unfold NumPost at HN
 go_enter Tryz.func45, Tryz.ntmps45
 go_upto_region 1 with fail
 generalize w.alloc (.cells #[.int .i8 x.kind, .string x.text, .slice A x.l.length c] 30) = w1 at *
 obtain ⟨r1, r2, r3, hr⟩ : ∃ a b c, numR x = (a, b, c) := ⟨_, _, _, rfl⟩
 rw [hr] at HN
 have HR := kp hr
 clear hr
 obtain ⟨q0, q1, q2, qf⟩ := Bk.c3 XB.out
 go_wp2_with fail
 refine (HN.out w1 B1.out).mono ?_
 rintro e w2 ⟨rfl, hb⟩
 have B2 := kp (B1.out.trans (hb.mono B1.out.size))
 clear hb
 go_wp2_with fail
 go_ret
 exact ⟨by rw [HR.out]; rfl, B2.out⟩
def NuPost (F : Fix) (known : Int) (w : World) (t : List Node) (At : Option Addr) (n : Int) (st' : St) (e : Ending) (w' : World) : Prop :=
 e = .returned (.int .i64 n) ∧ Keeps (onMb F) w w' ∧ ∃ A' c', Mk F w' known st' A' c' ∧ TN w.heap.size t At st'.t A'
set_option maxHeartbeats 1600000 in
theorem number_any {F : Fix} (hF : FixOk F) {w : World} {known : Int} {st : St} {At : Option Addr} {ct : Nat} (hm : Mk F w known st At ct) {A : Option Addr} {c : Nat} {x : Sexp} (h : XAt w A c x) :
  Calls Tryz.prog 47 #[.pointer (some ⟨F.mb, 0, none⟩), .agg #[.int .i8 x.kind, .string x.text, .slice A x.l.length c]] w (NuPost F known w st.t At (numberM F.c x st).1 (numberM F.c x st).2) := by
 rw [numberM_fst, numberM_snd]
 have XB := kp (Bk.new w (.cells #[.int .i8 x.kind, .string x.text, .slice A x.l.length c] 30))
 have B1 := kp ((Below.refl w.heap.size w).alloc (Nat.le_refl _) (.cells #[.int .i8 x.kind, .string x.text, .slice A x.l.length c] 30))
 have HN := kp (fun W (hW : Below w.heap.size w W) => numeralX_any (h.on hW))
 have HP := kp (show ∀ w' n st' A' c', n = (numR x).1 → st' = (if (numR x).2.2 ≠ 0 ∧ F.c.build = true then failS (numR x).2.2 st else st) → Keeps (onMb F) w w' → Mk F w' known st' A' c' → TN w.heap.size st.t At st'.t A' → NuPost F known w st.t At (numR x).1 (if (numR x).2.2 ≠ 0 ∧ F.c.build = true then failS (numR x).2.2 st else st) (.returned (.int .i64 n)) w' from fun w' n st' A' c' h1 h2 h3 h4 h5 => by
  subst h1; subst h2
  exact ⟨rfl, h3, A', c', h4, h5⟩)
 generalize NuPost F known w st.t At (numR x).1 (if (numR x).2.2 ≠ 0 ∧ F.c.build = true then failS (numR x).2.2 st else st) = PP at *
 unfold NumPost at HN
 have HM := kp (hm.keep B1.out)
 go_enter Tryz.func47, Tryz.ntmps47
 go_upto_region 1 with fail
 generalize w.alloc (.cells #[.int .i8 x.kind, .string x.text, .slice A x.l.length c] 30) = w1 at *
 generalize numR x = r at *
 obtain ⟨r1, r2, r3⟩ := r
 obtain ⟨q0, q1, q2, qf⟩ := Bk.c3 XB.out
 go_wp2_with fail
 refine (HN.out w1 B1.out).mono ?_
 rintro e w2 ⟨rfl, hb⟩
 have B2 := kp (B1.out.trans (hb.mono B1.out.size))
 have HM2 := kp (hm.keep B2.out)
 clear hb q0 q1 q2 qf HM
 obtain ⟨m0, m1, m2, m3, m4, m5, m6, m7, m8, mf⟩ := Bk.c9 HM2.out.blk
 by_cases h3 : r3 = 0
 ·have h3' : (r3 != 0) = false := by simp [h3]
  have HR := kp (HP.out w2 r1 st At ct rfl (by simp [h3]) (Keeps.of_below B2.out _) HM2.out (TN.refl _ _ _))
  clear h3
  go_wp2_with fail
  exact HR.out
 ·have h3' : (r3 != 0) = true := by simp [h3]
  cases hbu : F.c.build with
  | false =>
   rw [hbu] at m5
   have HR := kp (HP.out w2 r1 st At ct rfl (by simp [hbu]) (Keeps.of_below B2.out _) HM2.out (TN.refl _ _ _))
   clear h3 hbu
   go_wp2_with fail
   exact HR.out
  | true =>
   rw [hbu] at m5
   have HS := kp (show failS r3 st = if r3 ≠ 0 ∧ F.c.build = true then failS r3 st else st by rw [if_pos ⟨h3, hbu⟩])
   have HFl := kp (fail_any hF HM2.out r3 h3)
   clear h3 hbu
   go_wp2_with fail
   refine HFl.out.mono ?_
   rintro e w5 ⟨rfl, hv, hk, A5, c5, hm5, ht5⟩
   have HR := kp (HP.out w5 r1 _ A5 c5 rfl HS.out ((Keeps.of_below B2.out _).trans_same hk) hm5 (ht5.mono B2.out.size))
   clear hv hk hm5 ht5
   go_wp2_with fail
   exact HR.out
end Go.Proofs.YtpmdcckapddchaaGreat.El
/- Differences: is it one, its node, held against a number. -/
namespace Go.Proofs.YtpmdcckapddchaaGreat.El
open Go.RowKit Go.Maps Go.Proofs.YtpmdcckapddchaaGreat.Dt Go.Proofs.YtpmdcckapddchaaGreat.Sg

theorem nth_get {x : Sexp} {i : Nat} (h : i < x.l.length) : x.l[i]? = some (nthX x i) := by
 unfold nthX
 rw [List.getD_eq_getElem?_getD, List.getElem?_eq_getElem h]
 rfl
theorem nth_cells {w : World} {A : Option Addr} {c : Nat} {x : Sexp} (h : XAt w A c x) {i : Nat} (hi : i < x.l.length) : ∃ b o A' c', A = some ⟨b, o, none⟩ ∧ b < w.heap.size ∧ w.cell? ⟨b, o + i * 3, none⟩ = some (.int .i8 (nthX x i).kind) ∧ w.cell? ⟨b, o + i * 3 + 1, none⟩ = some (.string (nthX x i).text) ∧ w.cell? ⟨b, o + i * 3 + 2, none⟩ = some (.slice A' (nthX x i).l.length c') ∧ XAt w A' c' (nthX x i) :=
 sexp_cells h.opens.1 (nth_get hi)
set_option maxHeartbeats 1600000 in
theorem minus_any {w : World} {A : Option Addr} {c : Nat} {x : Sexp} (h : XAt w A c x) :
  Calls Tryz.prog 134 #[.agg #[.int .i8 x.kind, .string x.text, .slice A x.l.length c]] w fun e w' => e = .returned (.bool (minusB x)) ∧ Below w.heap.size w w' := by
 have XB := kp (Bk.new w (.cells #[.int .i8 x.kind, .string x.text, .slice A x.l.length c] 30))
 have B1 := kp ((Below.refl w.heap.size w).alloc (Nat.le_refl _) (.cells #[.int .i8 x.kind, .string x.text, .slice A x.l.length c] 30))
 have HH := kp (fun W (hW : Below w.heap.size w W) => head_any (h.on hW))
 have HS := kp (show minusB x = (decide (headS x = sMinus) && decide (x.l.length = 3) && !isNumX (nthX x 2)) from rfl)
 have HX := kp h
 clear h
 generalize minusB x = res at *
 go_enter Tryz.func134, Tryz.ntmps134
 go_upto_region 1 with fail
 generalize w.alloc (.cells #[.int .i8 x.kind, .string x.text, .slice A x.l.length c] 30) = w1 at *
 obtain ⟨q0, q1, q2, qf⟩ := Bk.c3 XB.out
 have HH1 := kp (HH.out w1 B1.out)
 by_cases h2 : headS x = sMinus
 ·have h2' : ((headS x).toList == [45]) = true := tl_true h2
  by_cases h3 : x.l.length = 3
  ·have h3' : ((x.l.length : Int) == 3) = true := by rw [h3]; rfl
   have h3'' : (2 : Int) < (x.l.length : Int) := by omega
   replace HS := kp (show res = !isNumX (nthX x 2) by rw [HS.out, decide_eq_true h2, decide_eq_true h3]; rfl)
   have HN := kp (fun W (hW : Below w.heap.size w W) => nth_cells (HX.out.on hW) (i := 2) (by omega))
   clear h2 h3
   generalize nthX x 2 = y at *
   go_wp2_with fail
   refine HH1.out.mono ?_
   rintro e w2 ⟨rfl, hb⟩
   have B2 := kp (B1.out.trans (hb.mono B1.out.size))
   have X2 := kp (Bk.on XB.out hb)
   clear hb q0 q1 q2 qf
   obtain ⟨q0, q1, q2, qf⟩ := Bk.c3 X2.out
   obtain ⟨b, o, A', c', rfl, hbl, e0, e1, e2, hr⟩ := HN.out w2 B2.out
   have HNu := kp (isnum_any hr)
   clear hr
   go_wp2_with fail
   refine HNu.out.mono ?_
   rintro e w3 ⟨rfl, hb⟩
   have B3 := kp (B2.out.trans (hb.mono B2.out.size))
   clear hb
   go_wp2_with fail
   go_ret
   exact ⟨by rw [HS.out]; rfl, B3.out⟩
  ·have h3' : ((x.l.length : Int) == 3) = false := by rw [beq_eq_false_iff_ne]; omega
   replace HS := kp (show res = false by rw [HS.out, decide_eq_false h3]; simp)
   clear h2 h3
   go_wp2_with fail
   refine HH1.out.mono ?_
   rintro e w2 ⟨rfl, hb⟩
   have B2 := kp (B1.out.trans (hb.mono B1.out.size))
   have X2 := kp (Bk.on XB.out hb)
   clear hb q0 q1 q2 qf
   obtain ⟨q0, q1, q2, qf⟩ := Bk.c3 X2.out
   go_wp2_with fail
   go_ret
   exact ⟨by rw [HS.out]; rfl, B2.out⟩
 ·have h2' : ((headS x).toList == [45]) = false := tl_false h2
  replace HS := kp (show res = false by rw [HS.out, decide_eq_false h2]; simp)
  clear h2
  go_wp2_with fail
  refine HH1.out.mono ?_
  rintro e w2 ⟨rfl, hb⟩
  have B2 := kp (B1.out.trans (hb.mono B1.out.size))
  clear hb
  go_wp2_with fail
  go_ret
  exact ⟨by rw [HS.out]; rfl, B2.out⟩
set_option maxHeartbeats 3200000 in
theorem diff_any {F : Fix} (hF : FixOk F) {w : World} {known : Int} {st : St} {At : Option Addr} {ct : Nat} (hm : Mk F w known st At ct) (x y : V) (hx : VI x) (hy : VI y) (n : Int) (hn : I64 n) :
  Calls Tryz.prog 173 #[.pointer (some ⟨F.mb, 0, none⟩), .agg #[.int .i64 x.1, .int .i64 x.2], .agg #[.int .i64 y.1, .int .i64 y.2], .int .i64 n] w (MkPost F known w st.t At (diffM F.c x y n st).1 (diffM F.c x y n st).2) := by
 have B2 := kp ((((Below.refl w.heap.size w).alloc (Nat.le_refl _) (.cells #[.int .i64 x.1, .int .i64 x.2] 69)).alloc (by simp) (.cells #[.int .i64 y.1, .int .i64 y.2] 69)))
 have Z2 := kp (show ((w.alloc (.cells #[.int .i64 x.1, .int .i64 x.2] 69)).alloc (.cells #[.int .i64 y.1, .int .i64 y.2] 69)).heap.size = w.heap.size + 1 + 1 by simp)
 have D1 := kp (Mid.newOn hm B2.out)
 have X1 := kp (Bk.keep (Bk.keep (Bk.new w (.cells #[.int .i64 x.1, .int .i64 x.2] 69)) (.cells #[.int .i64 y.1, .int .i64 y.2] 69)) (.cells #[.int .i64 0, .int .i64 0] 69))
 have Y1 := kp (Bk.keep (show ((w.alloc (.cells #[.int .i64 x.1, .int .i64 x.2] 69)).alloc (.cells #[.int .i64 y.1, .int .i64 y.2] 69)).heap[w.heap.size + 1]? = some (.cells #[.int .i64 y.1, .int .i64 y.2] 69 (0, 0)) by have h := Bk.new (w.alloc (.cells #[.int .i64 x.1, .int .i64 x.2] 69)) (.cells #[.int .i64 y.1, .int .i64 y.2] 69); simpa using h) (.cells #[.int .i64 0, .int .i64 0] 69))
 rw [Z2.out] at D1
 have HS := kp (show diffM F.c x y n st = if F.c.build = true ∧ st.e = 0 ∧ mayB n = false then (v0, { st with e := 10 }) else opM F.c 12 n [x, y] st from rfl)
 have HMy := kp (fun W => may_any n hn W)
 clear hm
 generalize diffM F.c x y n st = res at *
 go_enter Tryz.func173, Tryz.ntmps173
 go_upto_region 1 with fail
 generalize ((w.alloc (.cells #[.int .i64 x.1, .int .i64 x.2] 69)).alloc (.cells #[.int .i64 y.1, .int .i64 y.2] 69)).alloc (.cells #[.int .i64 0, .int .i64 0] 69) = w1 at *
 obtain ⟨m0, m1, m2, m3, m4, m5, m6, m7, m8, mf⟩ := Bk.c9 D1.out.maker.blk
 by_cases hbad : F.c.build = true ∧ st.e = 0 ∧ mayB n = false
 ·replace HS := kp (HS.out.trans (if_pos hbad))
  obtain ⟨hb, he, hmy⟩ := hbad
  have HFl := kp (fail_any hF D1.out.maker 10 (by decide))
  rw [show failS 10 st = { st with e := 10 } by unfold failS; rw [if_pos he]] at HFl
  rw [hb] at m5
  have he1 : (st.e == 0) = true := by simp [he]
  rw [hmy] at HMy
  clear hb he hmy
  go_wp2_with fail
  refine (HMy.out w1).mono ?_
  rintro e w2 ⟨rfl, rfl⟩
  go_wp2_with fail
  refine HFl.out.mono ?_
  rintro e w7 ⟨rfl, hv, hk7, A7, c7, hm7, ht7⟩
  have D7 := kp (D1.out.call hk7 hm7 ht7)
  unfold valV v0
  clear hk7 hm7 ht7 m0 m1 m2 m3 m4 m5 m6 m7 m8 mf
  obtain ⟨r0, r1, rf⟩ := Bk.c2 D7.out.cell
  go_wp2_with fail
  rw [HS.out]
  refine D7.out.ret (v := v0) hF Tryz.results173 ?_ ?_ v0_VI <;> rfl
 ·replace HS := kp (HS.out.trans (if_neg hbad))
  have DB := kp (D1.out.alloc (.cells #[.int .i64 x.1, .int .i64 x.2, .int .i64 y.1, .int .i64 y.2] 69))
  have NB := kp (Bk.new w1 (.cells #[.int .i64 x.1, .int .i64 x.2, .int .i64 y.1, .int .i64 y.2] 69))
  have HOp := kp (op_any hF DB.out.maker 12 n (I8.of (by decide) (by decide)) hn 2 (lies_two NB.out hx hy) (Nat.le_succ 2))
  rw [← HS.out] at HOp
  obtain ⟨x0, x1, xf⟩ := Bk.c2 X1.out
  obtain ⟨y0, y1, yf⟩ := Bk.c2 Y1.out
  cases hb : F.c.build with
  | false =>
   rw [hb] at m5
   clear hbad hb
   go_wp2_with fail
   refine HOp.out.mono ?_
   rintro e w7 ⟨rfl, hv, hk7, A7, c7, hm7, ht7⟩
   have D7 := kp (DB.out.call hk7 hm7 ht7)
   unfold valV
   clear hk7 hm7 ht7
   obtain ⟨r0, r1, rf⟩ := Bk.c2 D7.out.cell
   go_wp2_with fail
   refine D7.out.ret (v := res.1) hF Tryz.results173 ?_ ?_ hv <;> rfl
  | true =>
   rw [hb] at m5
   by_cases he : st.e = 0
   ·have he1 : (st.e == 0) = true := by simp [he]
    have hmy : mayB n = true := by
     cases h : mayB n with
     | true => rfl
     | false => exact absurd ⟨hb, he, h⟩ hbad
    rw [hmy] at HMy
    clear hbad hb he hmy
    go_wp2_with fail
    refine (HMy.out w1).mono ?_
    rintro e w2 ⟨rfl, rfl⟩
    go_wp2_with fail
    refine HOp.out.mono ?_
    rintro e w7 ⟨rfl, hv, hk7, A7, c7, hm7, ht7⟩
    have D7 := kp (DB.out.call hk7 hm7 ht7)
    unfold valV
    clear hk7 hm7 ht7
    obtain ⟨r0, r1, rf⟩ := Bk.c2 D7.out.cell
    go_wp2_with fail
    refine D7.out.ret (v := res.1) hF Tryz.results173 ?_ ?_ hv <;> rfl
   ·have he1 : (st.e == 0) = false := by simp [he]
    clear hbad hb he
    go_wp2_with fail
    refine HOp.out.mono ?_
    rintro e w7 ⟨rfl, hv, hk7, A7, c7, hm7, ht7⟩
    have D7 := kp (DB.out.call hk7 hm7 ht7)
    unfold valV
    clear hk7 hm7 ht7
    obtain ⟨r0, r1, rf⟩ := Bk.c2 D7.out.cell
    go_wp2_with fail
    refine D7.out.ret (v := res.1) hF Tryz.results173 ?_ ?_ hv <;> rfl
end Go.Proofs.YtpmdcckapddchaaGreat.El
/- A region that draws its order and ends in one store (number m): a condition on the world that holds up to that store. No condition. -/
namespace Go.Proofs.YtpmdcckapddchaaGreat
open Go.RowKit

section
variable {P : Program} {ops : Array Oper} {Q : Exit → Act → World → Prop} {md : Region.Mode} {S : World → Prop} {m : Nat}
def wpTo (P : Program) (md : Region.Mode) (ops : Array Oper) (Q : Exit → Act → World → Prop) (S : World → Prop) (m : Nat) : Nat → Array Bool → Act → World → Prop
 | 0, listed, a, w => Region.ready md ops listed = [] ∧ Q .normal a w
 | fuel + 1, listed, a, w => (Region.ready md ops listed = [] → Q .normal a w) ∧
   ∀ i ∈ Region.ready md ops listed, wpOp P ops Q i (fun a' w' => (i ≠ m → S w') ∧ wpTo P md ops Q S m fuel (listed.setIfInBounds i true) a' w') a w
theorem wpAny_of_to : ∀ (fuel : Nat) (listed : Array Bool) (a : Act) (w : World), wpTo P md ops Q S m fuel listed a w → wpAny P md ops Q fuel listed a w
 | 0, _, _, _, h => h
 | fuel + 1, _, _, _, h => ⟨h.1, fun i hi => wpOp_mono (fun a' w' h' => wpAny_of_to fuel _ a' w' h'.2) (h.2 i hi)⟩
theorem wpTo_first {i : Nat} {oi om : Oper} {v : Value} (hi : ops[i]? = some oi) (hom : ops[m]? = some om) (hwait : ∃ e ∈ om.after, Region.binds md e = true ∧ e.on = i)
  (hsel : ∀ (j : Nat) (o : Oper) cs b, ops[j]? = some o → o.op ≠ .select cs b) (hQ : ∀ c a w, Q (.panic c) (a.put oi.dst v) w → Q (.panic c) a w) :
  ∀ (fuel : Nat) (listed : Array Bool) (a : Act) (w : World),
   (∀ j oj, ops[j]? = some oj → j ≠ i → listed.getD j true = false → (∀ e ∈ oj.after, Region.binds md e = true → e.on ≠ i) → oi.apart ops oj = true) →
   i ∈ Region.ready md ops listed → YieldsIf P ops S oi v a → S w → i ≠ m →
   wpTo P md ops Q S m fuel (listed.setIfInBounds i true) (a.put oi.dst v) w → wpTo P md ops Q S m (fuel + 1) listed a w := by
 intro fuel
 induction fuel with
 | zero =>
  intro listed a w _ hr hy hS him H
  refine ⟨fun h => (by rw [h] at hr; cases hr), fun j hj => ?_⟩
  by_cases hji : j = i
  ·subst hji; exact hy.wpOp hi hS ⟨fun _ => hS, H⟩
  ·have := ready_mono hj hji
   rw [H.1] at this
   cases this
 | succ fuel ih =>
  intro listed a w hfree hr hy hS him H
  refine ⟨fun h => (by rw [h] at hr; cases hr), fun j hj => ?_⟩
  by_cases hji : j = i
  ·subst hji; exact hy.wpOp hi hS ⟨fun _ => hS, H⟩
  ·have h1 := H.2 j (ready_mono hj hji)
   obtain ⟨hjun, oj, hoj, hall⟩ := mem_ready.1 hj
   have hnot : ∀ e ∈ oj.after, Region.binds md e = true → e.on ≠ i := fun e he hb heq => by
    have h1 := hall e he hb
    have h0 := (mem_ready.1 hr).1
    rw [heq] at h1
    rcases Nat.lt_or_ge i listed.size with h' | h'
    ·simp [h'] at h0 h1; rw [h0] at h1; cases h1
    ·simp [Array.getElem?_eq_none h'] at h1
   have hjm : j ≠ m := by
    rintro rfl
    rw [hoj] at hom
    obtain rfl := Option.some.inj hom
    obtain ⟨e, he, hb, hon⟩ := hwait
    exact hnot e he hb hon
   have h2 := wpOp_putIf hoj (hfree j oj hoj hji hjun hnot) (fun cs b => hsel i oi cs b hi) (fun cs b => hsel j oj cs b hoj) hQ hy h1
   have hfree' : ∀ k ok, ops[k]? = some ok → k ≠ i → (listed.setIfInBounds j true).getD k true = false →
     (∀ e ∈ ok.after, Region.binds md e = true → e.on ≠ i) → oi.apart ops ok = true := fun k ok hk hki hun hno => by
    refine hfree k ok hk hki ?_ hno
    by_cases hjk : j = k
    ·subst hjk; exact hjun
    ·rw [getD_set_ne true hjk] at hun; exact hun
   refine wpOp_mono (fun a' w' h3 => ⟨h3.2.1, ih (listed.setIfInBounds j true) a' w' hfree' (ready_mono hr (Ne.symm hji)) h3.1 (h3.2.1 hjm) him ?_⟩) h2
   rw [Array.setIfInBounds_comm _ _ hji]
   exact h3.2.2
def waitsFor (md : Region.Mode) (ops : Array Oper) (m i : Nat) : Bool := (ops[m]?.map fun o => o.after.any fun e => Region.binds md e && e.on == i) == some true && i != m
theorem wpTo_take {i : Nat} {oi : Oper} {v : Value} {fuel : Nat} {listed : Array Bool} {a : Act} {w : World} (hi : ops[i]? = some oi)
  (hs : Region.noSelect ops = true) (hf : Region.free md ops listed i = true) (hr : (Region.ready md ops listed).contains i = true) (hw : waitsFor md ops m i = true)
  (hQ : ∀ c a w, Q (.panic c) (a.put oi.dst v) w → Q (.panic c) a w) (hy : YieldsIf P ops S oi v a) (hS : S w)
  (h : wpTo P md ops Q S m fuel (listed.setIfInBounds i true) (a.put oi.dst v) w) : wpTo P md ops Q S m (fuel + 1) listed a w := by
 unfold waitsFor at hw
 rw [Bool.and_eq_true] at hw
 obtain ⟨hw1, hw2⟩ := hw
 cases hom : ops[m]? with
 | none => rw [hom] at hw1; cases hw1
 | some om =>
  rw [hom] at hw1
  have hw3 : (om.after.any fun e => Region.binds md e && e.on == i) = true := by simpa using hw1
  obtain ⟨k, hk, hq⟩ := Array.any_eq_true.1 hw3
  rw [Bool.and_eq_true] at hq
  exact wpTo_first hi hom ⟨om.after[k], Array.getElem_mem hk, hq.1, by simpa using hq.2⟩ (Region.noSelect_spec hs) hQ fuel listed a w (Region.free_spec hi hf) (by simpa using hr) hy hS (by simpa using hw2) h
theorem wpTo_step {i : Nat} {o : Oper} {fuel : Nat} {listed : Array Bool} {a : Act} {w : World} (hr : Region.ready md ops listed = [i]) (ho : ops[i]? = some o)
  (h : ∀ K' : Act → World → Prop, Shut (∀ a w, S w → (S w → wpTo P md ops Q S m fuel (listed.setIfInBounds i true) a w) → K' a w) → if Region.wanted o (yielded ops a.tmps) = true then Oper.wp P o a w K' Q else K' (a.put o.dst undef) w) :
  wpTo P md ops Q S m (fuel + 1) listed a w := by
 refine ⟨fun h0 => (by rw [hr] at h0; cases h0), fun j hj => ?_⟩
 rw [hr] at hj
 obtain rfl : j = i := by simpa using hj
 exact wpOp_step ho (fun K' hK => h K' (fun a w hS hW => hK a w ⟨fun _ => hS, hW hS⟩))
theorem wpTo_last {o : Oper} {fuel : Nat} {listed : Array Bool} {a : Act} {w : World} (hr : Region.ready md ops listed = [m]) (ho : ops[m]? = some o)
  (h : ∀ K' : Act → World → Prop, Shut (∀ a w, wpTo P md ops Q S m fuel (listed.setIfInBounds m true) a w → K' a w) → if Region.wanted o (yielded ops a.tmps) = true then Oper.wp P o a w K' Q else K' (a.put o.dst undef) w) :
  wpTo P md ops Q S m (fuel + 1) listed a w := by
 refine ⟨fun h0 => (by rw [hr] at h0; cases h0), fun j hj => ?_⟩
 rw [hr] at hj
 obtain rfl : j = m := by simpa using hj
 exact wpOp_step ho (fun K' hK => h K' (fun a w hW => hK a w ⟨fun hn => absurd rfl hn, hW⟩))
theorem wpTo_done {listed : Array Bool} {a : Act} {w : World} (hr : Region.ready md ops listed = []) (h : Q .normal a w) : ∀ fuel, wpTo P md ops Q S m fuel listed a w
 | 0 => ⟨hr, h⟩
 | _ + 1 => ⟨fun _ => h, by rw [hr]; simp⟩
theorem wp_region_to {id : Nat} {a : Act} {w : World} (hm : P.follows .mixedOrders = true) (S : World → Prop) (m : Nat) (hS : S w.drew)
  (h : S w.drew → wpTo P .any ops Q S m ops.size (Array.replicate ops.size false) a w.drew) : (Code.region id ops true).wp P Q a w :=
 wp_region_any hm (wpAny_of_to _ _ _ _ (h hS))
end
end Go.Proofs.YtpmdcckapddchaaGreat
/- A difference held against a number. -/
namespace Go.Proofs.YtpmdcckapddchaaGreat.El
open Go.RowKit Go.Maps Go.Proofs.YtpmdcckapddchaaGreat.Dt Go.Proofs.YtpmdcckapddchaaGreat.Sg

set_option maxRecDepth 100000 in
set_option maxHeartbeats 6400000 in
theorem held_any {F : Fix} (hF : FixOk F) {w : World} {known : Int} {st : St} {At : Option Addr} {ct : Nat} (hm : Mk F w known st At ct) (name : ByteArray) (x y : V) (hx : VI x) (hy : VI y) (n : Int) (hn : -4611686018427387904 ≤ n ∧ n ≤ 4611686018427387904) :
  Calls Tryz.prog 135 #[.pointer (some ⟨F.mb, 0, none⟩), .string name, .agg #[.int .i64 x.1, .int .i64 x.2], .agg #[.int .i64 y.1, .int .i64 y.2], .int .i64 n] w (MkPost F known w st.t At (heldM F.c name x y n st).1 (heldM F.c name x y n st).2) := by
 have B2 := kp ((((Below.refl w.heap.size w).alloc (Nat.le_refl _) (.cells #[.int .i64 x.1, .int .i64 x.2] 69)).alloc (by simp) (.cells #[.int .i64 y.1, .int .i64 y.2] 69)))
 have Z2 := kp (show ((w.alloc (.cells #[.int .i64 x.1, .int .i64 x.2] 69)).alloc (.cells #[.int .i64 y.1, .int .i64 y.2] 69)).heap.size = w.heap.size + 1 + 1 by simp)
 have D1 := kp (Mid.newOn hm B2.out)
 have X1 := kp (Bk.keep (Bk.keep (Bk.new w (.cells #[.int .i64 x.1, .int .i64 x.2] 69)) (.cells #[.int .i64 y.1, .int .i64 y.2] 69)) (.cells #[.int .i64 0, .int .i64 0] 69))
 have Y1 := kp (Bk.keep (show ((w.alloc (.cells #[.int .i64 x.1, .int .i64 x.2] 69)).alloc (.cells #[.int .i64 y.1, .int .i64 y.2] 69)).heap[w.heap.size + 1]? = some (.cells #[.int .i64 y.1, .int .i64 y.2] 69 (0, 0)) by have h := Bk.new (w.alloc (.cells #[.int .i64 x.1, .int .i64 x.2] 69)) (.cells #[.int .i64 y.1, .int .i64 y.2] 69); simpa using h) (.cells #[.int .i64 0, .int .i64 0] 69))
 rw [Z2.out] at D1
 have HS := kp (show heldM F.c name x y n st = if name = sLe then diffM F.c x y n st
  else if name = sLt then diffM F.c x y (n - 1) st
  else if name = sGe then diffM F.c y x (-n) st
  else if name = sGt then diffM F.c y x (-n - 1) st
  else opM F.c 2 0 [(diffM F.c x y n st).1, (diffM F.c y x (-n) (diffM F.c x y n st).2).1] (diffM F.c y x (-n) (diffM F.c x y n st).2).2 from rfl)
 have hw1 : IntKind.i64.wrap (n - 1) = n - 1 := IntWalk.i64_in _ (by omega)
 have hw2 : IntKind.i64.wrap (-n) = -n := IntWalk.i64_in _ (by omega)
 have hw3 : IntKind.i64.wrap (-n - 1) = -n - 1 := IntWalk.i64_in _ (by omega)
 have hb0 : I64 n := ⟨by omega, by omega⟩
 have hb1 : I64 (n - 1) := ⟨by omega, by omega⟩
 have hb2 : I64 (-n) := ⟨by omega, by omega⟩
 have hb3 : I64 (-n - 1) := ⟨by omega, by omega⟩
 have hlt := hm.lt
 clear hm
 generalize heldM F.c name x y n st = res at *
 go_enter Tryz.func135, Tryz.ntmps135
 go_upto_region 1 with fail
 generalize ((w.alloc (.cells #[.int .i64 x.1, .int .i64 x.2] 69)).alloc (.cells #[.int .i64 y.1, .int .i64 y.2] 69)).alloc (.cells #[.int .i64 0, .int .i64 0] 69) = w1 at *
 obtain ⟨x0, x1, xf⟩ := Bk.c2 X1.out
 obtain ⟨y0, y1, yf⟩ := Bk.c2 Y1.out
 by_cases h1 : name = sLe
 ·replace HS := kp (HS.out.trans (if_pos h1))
  have g1 : (name.toList == [60, 61]) = true := tl_true h1
  have HD := kp (diff_any hF D1.out.maker x y hx hy n hb0)
  clear h1
  rw [← HS.out] at HD
  go_wp2_with fail
  refine HD.out.mono ?_
  rintro e w7 ⟨rfl, hv, hk7, A7, c7, hm7, ht7⟩
  have D7 := kp (D1.out.call hk7 hm7 ht7)
  unfold valV
  clear hk7 hm7 ht7
  obtain ⟨r0, r1, rf⟩ := Bk.c2 D7.out.cell
  go_wp2_with fail
  refine D7.out.ret (v := res.1) hF Tryz.results135 ?_ ?_ hv <;> rfl
 replace HS := kp (HS.out.trans (if_neg h1))
 have g1 : (name.toList == [60, 61]) = false := tl_false h1
 by_cases h2 : name = sLt
 ·replace HS := kp (HS.out.trans (if_pos h2))
  have g2 : (name.toList == [60]) = true := tl_true h2
  have HD := kp (diff_any hF D1.out.maker x y hx hy (n - 1) hb1)
  clear h1 h2
  rw [← HS.out] at HD
  go_wp2_with fail
  refine HD.out.mono ?_
  rintro e w7 ⟨rfl, hv, hk7, A7, c7, hm7, ht7⟩
  have D7 := kp (D1.out.call hk7 hm7 ht7)
  unfold valV
  clear hk7 hm7 ht7
  obtain ⟨r0, r1, rf⟩ := Bk.c2 D7.out.cell
  go_wp2_with fail
  refine D7.out.ret (v := res.1) hF Tryz.results135 ?_ ?_ hv <;> rfl
 replace HS := kp (HS.out.trans (if_neg h2))
 have g2 : (name.toList == [60]) = false := tl_false h2
 by_cases h3 : name = sGe
 ·replace HS := kp (HS.out.trans (if_pos h3))
  have g3 : (name.toList == [62, 61]) = true := tl_true h3
  have HD := kp (diff_any hF D1.out.maker y x hy hx (-n) hb2)
  clear h1 h2 h3
  rw [← HS.out] at HD
  go_wp2_with fail
  refine HD.out.mono ?_
  rintro e w7 ⟨rfl, hv, hk7, A7, c7, hm7, ht7⟩
  have D7 := kp (D1.out.call hk7 hm7 ht7)
  unfold valV
  clear hk7 hm7 ht7
  obtain ⟨r0, r1, rf⟩ := Bk.c2 D7.out.cell
  go_wp2_with fail
  refine D7.out.ret (v := res.1) hF Tryz.results135 ?_ ?_ hv <;> rfl
 replace HS := kp (HS.out.trans (if_neg h3))
 have g3 : (name.toList == [62, 61]) = false := tl_false h3
 by_cases h4 : name = sGt
 ·replace HS := kp (HS.out.trans (if_pos h4))
  have g4 : (name.toList == [62]) = true := tl_true h4
  have HD := kp (diff_any hF D1.out.maker y x hy hx (-n - 1) hb3)
  clear h1 h2 h3 h4
  rw [← HS.out] at HD
  go_wp2_with fail
  refine HD.out.mono ?_
  rintro e w7 ⟨rfl, hv, hk7, A7, c7, hm7, ht7⟩
  have D7 := kp (D1.out.call hk7 hm7 ht7)
  unfold valV
  clear hk7 hm7 ht7
  obtain ⟨r0, r1, rf⟩ := Bk.c2 D7.out.cell
  go_wp2_with fail
  refine D7.out.ret (v := res.1) hF Tryz.results135 ?_ ?_ hv <;> rfl
 replace HS := kp (HS.out.trans (if_neg h4))
 have g4 : (name.toList == [62]) = false := tl_false h4
 clear h1 h2 h3 h4
 have HD := kp (diff_any hF D1.out.maker x y hx hy n hb0)
 generalize diffM F.c x y n st = p at *
 obtain ⟨pv, ps⟩ := p
 go_wp2_with fail
 refine HD.out.mono ?_
 rintro e w7 ⟨rfl, hv, hk7, A7, c7, hm7, ht7⟩
 have D7 := kp (D1.out.call hk7 hm7 ht7)
 have X7 := kp (D1.out.blk hk7 X1.out (Nat.le_refl _))
 have Y7 := kp (D1.out.blk hk7 Y1.out (Nat.le_succ _))
 have VP := kp hv
 unfold valV
 clear hv hk7 hm7 ht7 x0 x1 xf y0 y1 yf HD
 have DA := kp (D7.out.alloc (.cells #[.int .i64 pv.1, .int .i64 pv.2] 69))
 have PA := kp (Bk.new w7 (.cells #[.int .i64 pv.1, .int .i64 pv.2] 69))
 have XA := kp (Bk.keep X7.out (.cells #[.int .i64 pv.1, .int .i64 pv.2] 69))
 have YA := kp (Bk.keep Y7.out (.cells #[.int .i64 pv.1, .int .i64 pv.2] 69))
 have hpb := D7.out.keeps.size
 go_upto_region 11 with fail
 generalize w7.alloc (.cells #[.int .i64 pv.1, .int .i64 pv.2] 69) = wr at *
 generalize w7.heap.size = pb at *
 have D0 := kp DA.out.drew
 have K0 := kp (Keeps.refl (onMb F) wr).drew
 have HD2 := kp (diff_any hF D0.out.maker y x hy hx (-n) hb2)
 generalize diffM F.c y x (-n) (pv, ps).2 = q at *
 obtain ⟨qv, qs⟩ := q
 have RW := kp (fun (W : World) (k : Nat) (o : Obj) (hW : Keeps (onMb F) wr W) (hk : wr.heap[k]? = some o) (hle : w.heap.size ≤ k) => DA.out.blk hW hk hle)
 refine wp_region_to (by kernel_rfl) (fun W => Keeps (onMb F) wr W) 10 (K0.out) (fun hHeld => ?_)
 refine wpTo_take (i := 0) (oi := Oper.mk _ _ _ _ _ _) (v := ?_) rfl (by kernel_rfl) (by kernel_rfl) (by kernel_rfl) (by kernel_rfl) (fun _ _ _ h => h) (Or.inl ⟨by rfl, ?_⟩) (by assumption) ?_
 rotate_left
 ·(intro w hSw; go_simp; try with_reducible rfl)
 try simp only [pt]
 refine wpTo_take (i := 1) (oi := Oper.mk _ _ _ _ _ _) (v := ?_) rfl (by kernel_rfl) (by kernel_rfl) (by kernel_rfl) (by kernel_rfl) (fun _ _ _ h => h) (Or.inl ⟨by rfl, ?_⟩) (by assumption) ?_
 rotate_left
 ·(intro w hSw; (obtain ⟨p0, p1, pf⟩ := Bk.c2 (RW.out _ _ _ hSw PA.out hpb); go_simp; try with_reducible rfl))
 try simp only [pt]
 refine wpTo_take (i := 2) (oi := Oper.mk _ _ _ _ _ _) (v := ?_) rfl (by kernel_rfl) (by kernel_rfl) (by kernel_rfl) (by kernel_rfl) (fun _ _ _ h => h) (Or.inl ⟨by rfl, ?_⟩) (by assumption) ?_
 rotate_left
 ·(intro w hSw; go_simp; try with_reducible rfl)
 try simp only [pt]
 refine wpTo_take (i := 3) (oi := Oper.mk _ _ _ _ _ _) (v := ?_) rfl (by kernel_rfl) (by kernel_rfl) (by kernel_rfl) (by kernel_rfl) (fun _ _ _ h => h) (Or.inl ⟨by rfl, ?_⟩) (by assumption) ?_
 rotate_left
 ·(intro w hSw; (obtain ⟨p0, p1, pf⟩ := Bk.c2 (RW.out _ _ _ hSw YA.out (Nat.le_succ _)); go_simp; try with_reducible rfl))
 try simp only [pt]
 refine wpTo_take (i := 4) (oi := Oper.mk _ _ _ _ _ _) (v := ?_) rfl (by kernel_rfl) (by kernel_rfl) (by kernel_rfl) (by kernel_rfl) (fun _ _ _ h => h) (Or.inl ⟨by rfl, ?_⟩) (by assumption) ?_
 rotate_left
 ·(intro w hSw; (obtain ⟨p0, p1, pf⟩ := Bk.c2 (RW.out _ _ _ hSw XA.out (Nat.le_refl _)); go_simp; try with_reducible rfl))
 try simp only [pt]
 refine wpTo_take (i := 5) (oi := Oper.mk _ _ _ _ _ _) (v := ?_) rfl (by kernel_rfl) (by kernel_rfl) (by kernel_rfl) (by kernel_rfl) (fun _ _ _ h => h) (Or.inl ⟨by rfl, ?_⟩) (by assumption) ?_
 rotate_left
 ·(intro w hSw; go_simp; try with_reducible rfl)
 try simp only [pt]
 refine wpTo_take (i := 6) (oi := Oper.mk _ _ _ _ _ _) (v := ?_) rfl (by kernel_rfl) (by kernel_rfl) (by kernel_rfl) (by kernel_rfl) (fun _ _ _ h => h) (Or.inl ⟨by rfl, ?_⟩) (by assumption) ?_
 rotate_left
 ·(intro w hSw; go_simp; try with_reducible rfl)
 try simp only [pt]
 refine wpTo_step (i := 7) (o := Oper.mk _ _ _ _ _ _) (by kernel_rfl) rfl (fun K hK => ?_)
 go_simp
 refine HD2.out.mono ?_
 rintro e w8 ⟨rfl, hv, hk8, A8, c8, hm8, ht8⟩
 have D8 := kp (D0.out.call hk8 hm8 ht8)
 have K8 := kp (K0.out.trans_same hk8)
 have VQ := kp hv
 unfold valV
 clear hv hk8 hm8 ht8
 refine hK.out _ _ K8.out (fun hHeld => ?_)
 clear hK K
 have D9 := kp (D8.out.alloc (.cells #[.int .i64 pv.1, .int .i64 pv.2, .int .i64 qv.1, .int .i64 qv.2] 69))
 have K9 := kp (K8.out.alloc (.cells #[.int .i64 pv.1, .int .i64 pv.2, .int .i64 qv.1, .int .i64 qv.2] 69))
 have N9 := kp (Bk.new w8 (.cells #[.int .i64 pv.1, .int .i64 pv.2, .int .i64 qv.1, .int .i64 qv.2] 69))
 have HOp := kp (op_any hF D9.out.maker 2 0 (I8.of (by decide) (by decide)) v0_VI.1 2 (lies_two N9.out VP.out VQ.out) (Nat.le_succ 2))
 refine wpTo_step (i := 8) (o := Oper.mk _ _ _ _ _ _) (by kernel_rfl) rfl (fun K hK => ?_)
 go_simp
 refine hK.out _ _ (K9.out) (fun hHeld => ?_)
 clear hK K
 try simp only [pt]
 refine wpTo_step (i := 9) (o := Oper.mk _ _ _ _ _ _) (by kernel_rfl) rfl (fun K hK => ?_)
 go_simp
 refine HOp.out.mono ?_
 rintro e wa ⟨rfl, hv, hka, Aa, ca, hma, hta⟩
 have Da := kp (D9.out.call hka hma hta)
 have Ka := kp (K9.out.trans_same hka)
 replace HS := kp (show res = opM F.c 2 0 [pv, qv] qs from HS.out)
 rw [← HS.out] at hv Da
 unfold valV
 rw [← HS.out]
 clear hka hma hta
 refine hK.out _ _ Ka.out (fun hHeld => ?_)
 clear hK K
 obtain ⟨r0, r1, rf⟩ := Bk.c2 Da.out.cell
 refine wpTo_last (o := Oper.mk _ _ _ _ _ _) (by kernel_rfl) rfl (fun K hK => ?_)
 go_simp
 refine hK.out _ _ ?_
 clear hK K
 try simp only [pt]
 refine wpTo_done (by kernel_rfl) ?_ _
 go_wp2_with fail
 refine Da.out.ret (v := res.1) hF Tryz.results135 ?_ ?_ hv <;> rfl
end Go.Proofs.YtpmdcckapddchaaGreat.El
