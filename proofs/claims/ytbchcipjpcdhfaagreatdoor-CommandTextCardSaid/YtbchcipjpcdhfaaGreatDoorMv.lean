import Derived.Test.YtbchcipjpcdhfaaGreatDoorMa
import Derived.Test.YtbchcipjpcdhfaaGreatDoorMe
import Derived.Test.YtbchcipjpcdhfaaGreatDoorMr
import Derived.Test.YtbchcipjpcdhfaaGreatDoorMu
/- merged by wip/merge.py from: LexR SexpRMay R8Cmd -/
/- The document's lex: bytes, names. -/
namespace Go.Proofs.YtbchcipjpcdhfaaGreatDoor.Lx
open Go.RowKit

set_option maxHeartbeats 800000 in
theorem rwhite_any (c : Int) (w : World) :
    Calls Tryz.prog 117 #[.int .u8 c] w fun e w' => e = .returned (.bool (whiteI c)) ∧ w = w' := by
  go_enter Tryz.func117, Tryz.ntmps117
  go_wp2_with fail
  all_goals
    go_ret
    exact ⟨ret_bool (by rw [Bool.eq_iff_iff]; simp [whiteI]; try omega), rfl⟩
set_option maxHeartbeats 800000 in
theorem rinside_any (c : Int) (w : World) :
    Calls Tryz.prog 107 #[.int .u8 c] w fun e w' => e = .returned (.bool (insideI c)) ∧ w = w' := by
  have HW := Lib.hid (rwhite_any c w)
  have HQ := Lib.hid (show whiteI c = decide (c = 32 ∨ c = 9 ∨ c = 10 ∨ c = 13) from rfl)
  generalize whiteI c = b at *
  go_enter Tryz.func107, Tryz.ntmps107
  go_wp2_with (go_at_call 117; refine HW.out.mono ?_; rintro e w' ⟨rfl, rfl⟩)
  all_goals
    go_ret
    have hq := HQ.out
    exact ⟨ret_bool (by rw [Bool.eq_iff_iff]; simp [insideI, hq]; try omega), rfl⟩
set_option maxHeartbeats 1600000 in
theorem rreserved_any (s : ByteArray) (w : World) :
    Calls Tryz.prog 116 #[.string s] w fun e w' => e = .returned (.bool (resB (bs s))) ∧ w = w' := by
  go_enter Tryz.func116, Tryz.ntmps116
  go_wp2_with fail
  all_goals
    go_ret
    exact ⟨ret_bool (by rw [← bs_toList]; simp_all [resB, resL]), rfl⟩

def someL : List UInt8 := [126, 33, 64, 36, 37, 94, 38, 42, 95, 45, 43, 61, 60, 62, 46, 63, 47]
def someS : ByteArray := { data := #[126, 33, 64, 36, 37, 94, 38, 42, 95, 45, 43, 61, 60, 62, 46, 63, 47] }
theorem some_sign (c : Int) (h : ((65 ≤ c ∧ c ≤ 90) ∨ (97 ≤ c ∧ c ≤ 122) ∨ (48 ≤ c ∧ c ≤ 57)) = False) : signI c = (bs someS).any fun x => (x.toNat : Int) == c := by
  have e : (bs someS).any (fun x => (x.toNat : Int) == c) = someL.any (fun x => (x.toNat : Int) == c) := rfl
  rw [e, Bool.eq_iff_iff]
  simp [signI, someL]
  simp at h
  omega
set_option maxHeartbeats 1600000 in
theorem rsign_any (c : Int) (w : World) (h0 : 0 ≤ c) (h1 : c ≤ 255) :
    Calls Tryz.prog 108 #[.int .u8 c] w fun e w' => e = .returned (.bool (signI c)) ∧ w = w' := by
  by_cases h : (65 ≤ c ∧ c ≤ 90) ∨ (97 ≤ c ∧ c ≤ 122) ∨ (48 ≤ c ∧ c ≤ 57)
  · have HS := Lib.hid (show signI c = true from by simp [signI]; omega)
    by_cases a1 : 65 ≤ c <;> by_cases a2 : c ≤ 90 <;> by_cases a3 : 97 ≤ c <;> by_cases a4 : c ≤ 122 <;> by_cases a5 : 48 ≤ c <;> by_cases a6 : c ≤ 57
    all_goals first | (exfalso; omega) | skip
    all_goals
      try replace a1 := decide_eq_false a1
      try replace a2 := decide_eq_false a2
      try replace a3 := decide_eq_false a3
      try replace a4 := decide_eq_false a4
      try replace a5 := decide_eq_false a5
      try replace a6 := decide_eq_false a6
      clear h
      go_enter Tryz.func108, Tryz.ntmps108
      go_wp2_with fail
      go_ret
      exact ⟨ret_bool HS.out.symm, rfl⟩
  · have HS := Lib.hid (some_sign c (eq_false h))
    by_cases a1 : 65 ≤ c <;> by_cases a2 : c ≤ 90 <;> by_cases a3 : 97 ≤ c <;> by_cases a4 : c ≤ 122 <;> by_cases a5 : 48 ≤ c <;> by_cases a6 : c ≤ 57
    all_goals first | (exfalso; omega) | skip
    all_goals
      try replace a1 := decide_eq_false a1
      try replace a2 := decide_eq_false a2
      try replace a3 := decide_eq_false a3
      try replace a4 := decide_eq_false a4
      try replace a5 := decide_eq_false a5
      try replace a6 := decide_eq_false a6
      clear h
      go_enter Tryz.func108, Tryz.ntmps108
      go_wp2_with fail
    all_goals
      go_loop [3] (fun v => ∃ k : Nat, k ≤ 17 ∧ v = .int .i64 k ∧ (someL.take k).any (fun x => (x.toNat : Int) == c) = false) (fun v => 17 - (intOf v).toNat)
      case atStart => exact ⟨0, Nat.zero_le _, rfl, rfl⟩
      case round =>
        obtain ⟨k, hk, rfl, hn⟩ := hrel
        have HN := Lib.hid hn
        clear hn
        by_cases hlt : k < 17
        · have hlt2 : (k : Int) < 17 := by omega
          have HK := Lib.hid (show ∀ b, (((someS[k]'(by show k < 17; omega)).toNat : Int) == c) = b → ∃ x, someL[k]? = some x ∧ ((x.toNat : Int) == c) = b from fun b hb => ⟨someS[k]'(by show k < 17; omega), bs_at (s := someS) (by show k < 17; omega), hb⟩)
          go_wp2_with fail
          · obtain ⟨x, hx, hc⟩ := HK.out true (by assumption)
            go_ret
            exact ⟨ret_bool (by rw [HS.out, eq_comm, List.any_eq_true]; exact ⟨x, List.mem_of_getElem? hx, hc⟩), rfl⟩
          · obtain ⟨x, hx, hc⟩ := HK.out false (by assumption)
            refine ⟨⟨k + 1, by omega, by go_num, ?_⟩, by simp [intOf]; omega⟩
            rw [List.take_add_one, hx, List.any_append, HN.out]
            simpa using hc
        · obtain rfl : k = 17 := by omega
          go_wp2_with fail
          go_ret
          exact ⟨ret_bool (by rw [HS.out]; exact HN.out.symm), rfl⟩

set_option maxHeartbeats 1600000 in
theorem rmay_any (s : ByteArray) (w : World) (hs : (s.size : Int) ≤ 9223372036854775807) :
    Calls Tryz.prog 86 #[.string s] w fun e w' => e = .returned (.bool (mayB (bs s))) ∧ w = w' := by
  have HM := Lib.hid (show mayB (bs s) = (decide (s.size ≤ 100) && (bs s).all fun c => insideI c.toNat) by unfold mayB; rw [bs_length])
  by_cases h1 : s.size ≤ 100
  · have h : ¬ (100 : Int) < (s.size : Int) := by omega
    go_enter Tryz.func86, Tryz.ntmps86
    go_wp2_with fail
    go_loop [3] (fun v => ∃ k : Nat, k ≤ s.size ∧ v = .int .i64 k ∧ ((bs s).take k).all (fun c => insideI c.toNat) = true) (fun v => s.size - (intOf v).toNat)
    case atStart => exact ⟨0, Nat.zero_le _, rfl, rfl⟩
    case round =>
      obtain ⟨k, hk, rfl, hall⟩ := hrel
      have HA := Lib.hid hall
      clear hall
      by_cases hlt : k < s.size
      · have hlt2 : (k : Int) < (s.size : Int) := by omega
        have HC := Lib.hid (rinside_any (s[k].toNat : Int) w)
        have HT := Lib.hid (bs_next hlt)
        have HMm := Lib.hid (bs_mem hlt)
        cases hb : insideI (s[k].toNat : Int) with
        | true =>
          have HB := Lib.hid hb
          rw [hb] at HC
          clear hb
          go_wp2_with fail
          refine HC.out.mono ?_
          rintro e w' ⟨rfl, rfl⟩
          go_wp2_with fail
          go_round
          case rel => exact ⟨k + 1, by omega, by go_num, by rw [HT.out, List.all_append, HA.out]; simp [HB.out]⟩
          case measure => simp [intOf]; omega
        | false =>
          have HB := Lib.hid (show mayB (bs s) = false from by rw [HM.out, Bool.and_eq_false_iff]; right; rw [Bool.eq_false_iff]; intro h; rw [List.all_eq_true] at h; have := h _ HMm.out; rw [hb] at this; cases this)
          rw [hb] at HC
          clear hb
          go_wp2_with fail
          refine HC.out.mono ?_
          rintro e w' ⟨rfl, rfl⟩
          go_wp2_with fail
          go_ret
          exact ⟨ret_bool HB.out.symm, rfl⟩
      · obtain rfl : k = s.size := by omega
        have HB := Lib.hid (show mayB (bs s) = true from by have h := HA.out; rw [List.take_of_length_le (by rw [bs_length]; omega)] at h; rw [HM.out, h]; simp [h1])
        go_wp2_with fail
        go_ret
        exact ⟨ret_bool HB.out.symm, rfl⟩
  · have h : (100 : Int) < (s.size : Int) := by omega
    go_enter Tryz.func86, Tryz.ntmps86
    go_wp2_with fail
    go_ret
    exact ⟨ret_bool (by rw [HM.out]; simp [h1]), rfl⟩
end Go.Proofs.YtbchcipjpcdhfaaGreatDoor.Lx
/- Whether an expression may be: the document's May. -/
namespace Go.Proofs.YtbchcipjpcdhfaaGreatDoor.Dt
open Go.RowKit

set_option maxHeartbeats 1600000 in
theorem rkey_any (s : ByteArray) (w : World) (hs : (s.size : Int) ≤ 140737488351232) :
    Calls Tryz.prog 87 #[.string s] w fun e w' => e = .returned (.bool (keyB (Lx.bs s))) ∧ w = w' := by
  have HM := Lib.hid (show keyB (Lx.bs s) = (((Lx.bs s).all fun c => Lx.signI c.toNat) && !s.toList.isEmpty && decide (s.size ≤ 100)) by unfold keyB; rw [Lx.bs_length, Lx.bs_toList])
  cases he : s.toList.isEmpty with
  | true =>
    have he2 : s.toList = [] := List.isEmpty_iff.1 he
    replace HM := Lib.hid (show keyB (Lx.bs s) = false by rw [HM.out, he]; simp)
    clear he
    go_enter Tryz.func87, Tryz.ntmps87
    go_wp2_with fail
    go_ret
    exact ⟨ret_bool HM.out.symm, rfl⟩
  | false =>
    replace HM := Lib.hid (show keyB (Lx.bs s) = (((Lx.bs s).all fun c => Lx.signI c.toNat) && decide (s.size ≤ 100)) by rw [HM.out, he]; simp)
    by_cases h1 : s.size ≤ 100
    · have h : decide ((100 : Int) < (s.size : Int)) = false := decide_eq_false (by omega)
      replace HM := Lib.hid (show keyB (Lx.bs s) = ((Lx.bs s).all fun c => Lx.signI c.toNat) by rw [HM.out]; simp [h1])
      go_enter Tryz.func87, Tryz.ntmps87
      go_wp2_with fail
      go_loop [3] (fun v => ∃ k : Nat, k ≤ s.size ∧ v = .int .i64 k ∧ ((Lx.bs s).take k).all (fun c => Lx.signI c.toNat) = true) (fun v => s.size - (intOf v).toNat)
      case atStart => exact ⟨0, Nat.zero_le _, rfl, rfl⟩
      case round =>
        obtain ⟨k, hk, rfl, hall⟩ := hrel
        have HA := Lib.hid hall
        clear hall
        by_cases hlt : k < s.size
        · have hlt2 : (k : Int) < (s.size : Int) := by omega
          have HC := Lib.hid (Lx.rsign_any (s[k].toNat : Int) w (by omega) (by have := s[k].toNat_lt; omega))
          have HT := Lib.hid (Lx.bs_next hlt)
          have HMm := Lib.hid (Lx.bs_mem hlt)
          cases hb : Lx.signI (s[k].toNat : Int) with
          | true =>
            have HB := Lib.hid hb
            rw [hb] at HC
            clear hb
            go_wp2_with fail
            refine HC.out.mono ?_
            rintro e w' ⟨rfl, rfl⟩
            go_wp2_with fail
            go_round
            case rel => exact ⟨k + 1, by omega, by go_num, by rw [HT.out, List.all_append, HA.out]; simp [HB.out]⟩
            case measure => simp [intOf]; omega
          | false =>
            have HB := Lib.hid (show keyB (Lx.bs s) = false from by rw [HM.out, Bool.eq_false_iff]; intro h; rw [List.all_eq_true] at h; have := h _ HMm.out; rw [hb] at this; cases this)
            rw [hb] at HC
            clear hb
            go_wp2_with fail
            refine HC.out.mono ?_
            rintro e w' ⟨rfl, rfl⟩
            go_wp2_with fail
            go_ret
            exact ⟨ret_bool HB.out.symm, rfl⟩
        · obtain rfl : k = s.size := by omega
          have HB := Lib.hid (show keyB (Lx.bs s) = true from by have h := HA.out; rw [List.take_of_length_le (by rw [Lx.bs_length]; omega)] at h; rw [HM.out, h])
          go_wp2_with fail
          go_ret
          exact ⟨ret_bool HB.out.symm, rfl⟩
    · have h : (100 : Int) < (s.size : Int) := by omega
      replace HM := Lib.hid (show keyB (Lx.bs s) = false by rw [HM.out, decide_eq_false h1]; simp)
      go_enter Tryz.func87, Tryz.ntmps87
      go_wp2_with fail
      go_ret
      exact ⟨ret_bool HM.out.symm, rfl⟩

/-- what is told of an expression -/
def RStandsAt (y : Sexp) : Prop := ∀ (W : World) (A : Option Addr) (c : Nat), SexpR W [.int .i8 y.kind, .string y.text, .slice A y.l.length c] y → Calls Tryz.prog 64 #[.agg #[.int .i8 y.kind, .string y.text, .slice A y.l.length c]] W fun e w' => e = .returned (.bool y.stands) ∧ Below W.heap.size W w'
theorem stands_full {x : Sexp} (h3 : x.kind ≠ 3) (hl : 0 < x.l.length) : x.stands = false := by
  have he : x.l.isEmpty = false := by rw [List.isEmpty_eq_false_iff, ← List.length_pos_iff]; exact hl
  rw [Sexp.stands_eq, he]
  simp [h3]
theorem stands_leaf {x : Sexp} (hl : x.l.length = 0) : x.stands = if x.kind = 0 then Lx.mayB (Lx.bs x.text) else if x.kind = 1 then numB (Lx.bs x.text) else if x.kind = 2 then keyB (Lx.bs x.text) else if x.kind = 3 then (Lx.bs x.text).isEmpty && Sexp.standsL x.l else false := by
  have he : x.l.isEmpty = true := by rw [List.isEmpty_iff, ← List.length_eq_zero_iff]; exact hl
  rw [Sexp.stands_eq, he]
  simp
theorem rnumB_iff (s : ByteArray) : numB (Lx.bs s) = (decide (parseE s.data.toList ≠ 20) && decide (s.size ≤ 100)) := by
  rw [← Lx.bs_length]
  unfold numB parseE
  show (isNum (Lx.bs s) && _) = _
  cases h : isNum (Lx.bs s)
  · have h' : isNum s.data.toList = false := h
    simp [h']
  · have h' : isNum s.data.toList = true := h
    simp [h']
    split <;> simp

set_option maxRecDepth 100000 in
set_option maxHeartbeats 6400000 in
theorem rstands_step (x : Sexp) (hs : ∀ y ∈ x.l, RStandsAt y) : RStandsAt x := by
  intro w A c hr
  obtain ⟨A0, c0, e0, hl, hc, hcm, htx, hlb, _⟩ := hr.open'
  simp only [List.cons.injEq, Value.slice.injEq, and_true, true_and] at e0
  obtain ⟨rfl, rfl⟩ := e0
  have HF := Lib.hid (fun h3 hl => stands_full (x := x) h3 hl)
  have HE := Lib.hid (fun hl => stands_leaf (x := x) hl)
  have HQ := Lib.hid (Sexp.stands_eq x)
  obtain ⟨q0, q1, q2, z0⟩ := box_cells w (.int .i8 x.kind) (.string x.text) (.slice A x.l.length c) 25
  have B0 := Lib.hid ((Below.refl w.heap.size w).alloc (Nat.le_refl _) (.cells #[.int .i8 x.kind, .string x.text, .slice A x.l.length c] 25))
  have HM := Lib.hid (fun W => Lx.rmay_any x.text W (by omega))
  have HP := Lib.hid (fun W => rparse_any x.text (by omega) W)
  have HK := Lib.hid (fun W => rkey_any x.text W (by omega))
  have HN := Lib.hid (rnumB_iff x.text)
  by_cases h3 : x.kind = 3
  · have HX := Lib.hid (show x.stands = ((Lx.bs x.text).isEmpty && Sexp.standsL x.l) by rw [HQ.out, h3]; rfl)
    have HS := Lib.hid hs
    have HL := Lib.hid (hl.on SexpR.lasts B0.out)
    have HA := Lib.hid (Sexp.standsL_all x.l)
    have HT := Lib.hid (show (Lx.bs x.text).isEmpty = x.text.toList.isEmpty by rw [Lx.bs_toList])
    rw [h3] at q0 q1 q2 z0 B0 HL ⊢
    generalize x.stands = st at *
    generalize x.text = t at *
    generalize x.l = l at *
    clear HF HE HQ hs hl hr h3 HM HP HK HN
    go_enter Tryz.func64, Tryz.ntmps64
    go_wp2_with fail
    generalize w.alloc (.cells #[.int .i8 3, .string t, .slice A l.length c] 25) = w0 at *
    go_loopw [5] (fun v wr => ∃ k : Nat, k ≤ l.length ∧ v = .int .i64 k ∧ (l.take k).all Sexp.stands = true ∧ Below w0.heap.size w0 wr) (fun v _ => l.length - (intOf v).toNat)
    case atStart => exact ⟨0, Nat.zero_le _, rfl, rfl, Below.refl _ _⟩
    case round =>
      obtain ⟨k, hk, rfl, hn, hb⟩ := hrel
      have HNN := Lib.hid hn
      have HB := Lib.hid hb
      have p0 := ((bcell hb).1 w.heap.size 0 (by omega)).trans q0
      have p1 := ((bcell hb).1 w.heap.size 1 (by omega)).trans q1
      have p2 := ((bcell hb).1 w.heap.size 2 (by omega)).trans q2
      clear hn
      by_cases hlt : k < l.length
      · have hlt2 : (k : Int) < (l.length : Int) := by omega
        have hy := List.getElem?_eq_getElem hlt
        have hym := List.getElem_mem hlt
        generalize l[k] = y at hy hym
        obtain ⟨b, o, A', c', rfl, hbl, e0, e1, e2, hr⟩ := sexp_cells (HL.out.on SexpR.lasts hb) hy
        have HC := Lib.hid (HS.out y hym wr A' c' hr)
        have HY := Lib.hid hy
        have HMm := Lib.hid hym
        clear hb hr hy hym q0 q1 q2
        cases hq : y.stands with
        | true =>
          have HQ := Lib.hid (show (l.take (k + 1)).all Sexp.stands = true by rw [List.take_add_one, HY.out, List.all_append, HNN.out]; simpa using hq)
          rw [hq] at HC
          clear hq
          go_wp2_with fail
          refine HC.out.mono ?_
          rintro e w2 ⟨rfl, hb2⟩
          have HB2 := Lib.hid (HB.out.trans (hb2.mono HB.out.size))
          clear hb2
          go_wp2_with fail
          go_roundw
          case rel => exact ⟨k + 1, by omega, by go_num, HQ.out, HB2.out⟩
          case measure => simp [intOf]; omega
        | false =>
          have HQ := Lib.hid (show Sexp.standsL l = false by rw [HA.out, List.all_eq_false]; exact ⟨y, HMm.out, by rw [hq]; simp⟩)
          rw [hq] at HC
          clear hq
          go_wp2_with fail
          refine HC.out.mono ?_
          rintro e w2 ⟨rfl, hb2⟩
          have HB2 := Lib.hid (B0.out.trans ((HB.out.trans (hb2.mono HB.out.size)).mono (by omega)))
          clear hb2
          go_wp2_with fail
          go_ret
          exact ⟨ret_bool (by rw [HX.out, HQ.out]; simp), HB2.out⟩
      · obtain rfl : k = l.length := by omega
        have HQ := Lib.hid (show Sexp.standsL l = true by have h := HNN.out; rw [List.take_length] at h; rw [HA.out]; exact h)
        have HB2 := Lib.hid (B0.out.trans (HB.out.mono (by omega)))
        clear hb q0 q1 q2
        go_wp2_with fail
        go_ret
        exact ⟨ret_bool (by rw [HX.out, HQ.out, HT.out]; simp), HB2.out⟩
  · have n3 : (x.kind == 3) = false := beq_eq_false_iff_ne.2 h3
    have n3b : (x.kind != 3) = true := by rw [bne, n3]; rfl
    by_cases hl0 : 0 < x.l.length
    · have hl1 : (0 : Int) < (x.l.length : Int) := by omega
      have HX := Lib.hid (HF.out h3 hl0)
      clear HF HE HQ hs hl hr h3 HM HP HK HN
      go_enter Tryz.func64, Tryz.ntmps64
      go_wp2_with fail
      go_ret
      exact ⟨ret_bool HX.out.symm, B0.out⟩
    · have hl1 : x.l.length = 0 := by omega
      have HX := Lib.hid (HE.out hl1)
      rw [hl1] at q0 q1 q2 z0 B0 ⊢
      clear HF HE HQ hs hl hr hl0 hl1
      generalize x.stands = st at *
      generalize Lx.mayB (Lx.bs x.text) = b0 at *
      generalize numB (Lx.bs x.text) = b1 at *
      generalize keyB (Lx.bs x.text) = b2 at *
      generalize parseE x.text.data.toList = pe at *
      generalize parseV x.text.data.toList = pv at *
      by_cases h0 : x.kind = 0
      · replace HX := Lib.hid (HX.out.trans (if_pos h0))
        rw [h0] at q0 q1 q2 z0 B0 ⊢
        clear h0 h3 n3 n3b
        go_enter Tryz.func64, Tryz.ntmps64
        go_wp2_with fail
        refine (HM.out _).mono ?_
        rintro e w' ⟨rfl, rfl⟩
        go_wp2_with fail
        go_ret
        exact ⟨ret_bool HX.out.symm, B0.out⟩
      · have n0 : (x.kind == 0) = false := beq_eq_false_iff_ne.2 h0
        replace HX := Lib.hid (HX.out.trans (if_neg h0))
        by_cases h1 : x.kind = 1
        · replace HX := Lib.hid (HX.out.trans (if_pos h1))
          rw [h1] at q0 q1 q2 z0 B0 ⊢
          clear h0 h1 h3 n3 n0 n3b
          by_cases hp : pe = 20
          · subst hp
            replace HX := Lib.hid (show st = false by rw [HX.out, HN.out]; simp)
            go_enter Tryz.func64, Tryz.ntmps64
            go_wp2_with fail
            refine (HP.out _).mono ?_
            rintro e w' ⟨rfl, rfl⟩
            go_wp2_with fail
            go_ret
            exact ⟨ret_bool HX.out.symm, B0.out⟩
          · have hp1 : (pe == 20) = false := beq_eq_false_iff_ne.2 hp
            have hp2 : (pe != 20) = true := by rw [bne, hp1]; rfl
            by_cases h2 : x.text.size ≤ 100
            · have h2' : (x.text.size : Int) ≤ 100 := by omega
              replace HX := Lib.hid (show st = true by rw [HX.out, HN.out]; simp [hp, h2])
              go_enter Tryz.func64, Tryz.ntmps64
              go_wp2_with fail
              refine (HP.out _).mono ?_
              rintro e w' ⟨rfl, rfl⟩
              go_wp2_with fail
              go_ret
              exact ⟨ret_bool HX.out.symm, B0.out⟩
            · have h2' : decide ((x.text.size : Int) ≤ 100) = false := decide_eq_false (by omega)
              replace HX := Lib.hid (show st = false by rw [HX.out, HN.out]; simp [h2])
              go_enter Tryz.func64, Tryz.ntmps64
              go_wp2_with fail
              refine (HP.out _).mono ?_
              rintro e w' ⟨rfl, rfl⟩
              go_wp2_with fail
              go_ret
              exact ⟨ret_bool HX.out.symm, B0.out⟩
        · have n1 : (x.kind == 1) = false := beq_eq_false_iff_ne.2 h1
          replace HX := Lib.hid (HX.out.trans (if_neg h1))
          by_cases h2 : x.kind = 2
          · replace HX := Lib.hid (HX.out.trans (if_pos h2))
            rw [h2] at q0 q1 q2 z0 B0 ⊢
            clear h0 h1 h2 h3 n3 n0 n1 n3b
            go_enter Tryz.func64, Tryz.ntmps64
            go_wp2_with fail
            refine (HK.out _).mono ?_
            rintro e w' ⟨rfl, rfl⟩
            go_wp2_with fail
            go_ret
            exact ⟨ret_bool HX.out.symm, B0.out⟩
          · have n2 : (x.kind == 2) = false := beq_eq_false_iff_ne.2 h2
            replace HX := Lib.hid ((HX.out.trans (if_neg h2)).trans (if_neg h3))
            clear h0 h1 h2 h3
            go_enter Tryz.func64, Tryz.ntmps64
            go_wp2_with fail
            go_ret
            exact ⟨ret_bool HX.out.symm, B0.out⟩
theorem rstands_all : ∀ (n : Nat) (x : Sexp), SizeOf.sizeOf x < n → RStandsAt x := by
  intro n
  induction n with
  | zero => intro x hx; omega
  | succ n ih => exact fun x hx => rstands_step x fun y hy => ih y (by have := Sexp.mem_lt hy; omega)
set_option maxHeartbeats 1600000 in
theorem rsxmay_any {w : World} {A : Option Addr} {c : Nat} {x : Sexp} (h : SexpR w [.int .i8 x.kind, .string x.text, .slice A x.l.length c] x) :
    Calls Tryz.prog 36 #[.agg #[.int .i8 x.kind, .string x.text, .slice A x.l.length c]] w fun e w' => e = .returned (.bool x.may) ∧ Below w.heap.size w w' := by
  obtain ⟨q0, q1, q2, z0⟩ := box_cells w (.int .i8 x.kind) (.string x.text) (.slice A x.l.length c) 25
  have HB := Lib.hid ((Below.refl w.heap.size w).alloc (Nat.le_refl _) (.cells #[.int .i8 x.kind, .string x.text, .slice A x.l.length c] 25))
  have HR := Lib.hid (SexpR.lasts _ _ _ _ HB.out h)
  have HD := Lib.hid (rdepth_any _ x (Nat.lt_succ_self _) _ A c HR.out)
  have HS := Lib.hid (rstands_all _ x (Nat.lt_succ_self _))
  have HM := Lib.hid (show x.may = (decide (x.depth ≤ 60) && x.stands) from rfl)
  clear h
  go_enter Tryz.func36, Tryz.ntmps36
  go_wp2_with fail
  generalize w.alloc (.cells #[.int .i8 x.kind, .string x.text, .slice A x.l.length c] 25) = w0 at *
  refine HD.out.mono ?_
  rintro e w1 ⟨rfl, hb⟩
  have hs := HS.out w1 A c (SexpR.lasts _ _ _ _ hb HR.out)
  have p0 := ((bcell hb).1 w.heap.size 0 (by omega)).trans q0
  have p1 := ((bcell hb).1 w.heap.size 1 (by omega)).trans q1
  have p2 := ((bcell hb).1 w.heap.size 2 (by omega)).trans q2
  have HB1 := Lib.hid (HB.out.trans (hb.mono HB.out.size))
  clear hb q0 q1 q2
  by_cases hd : x.depth ≤ 60
  · go_wp2_with fail
    refine hs.mono ?_
    rintro e w2 ⟨rfl, hb⟩
    have HB2 := Lib.hid (HB1.out.trans (hb.mono HB1.out.size))
    clear hb
    go_wp2_with fail
    go_ret
    exact ⟨ret_bool (by rw [HM.out, decide_eq_true hd]; rfl), HB2.out⟩
  · have hd2 := decide_eq_false hd
    clear hs
    go_wp2_with fail
    go_ret
    exact ⟨ret_bool (by rw [HM.out, hd2]; rfl), HB1.out⟩
end Go.Proofs.YtbchcipjpcdhfaaGreatDoor.Dt
/- The document's reading of commands: Parse. -/
namespace Go.Proofs.YtbchcipjpcdhfaaGreatDoor.Cm
open Go.RowKit Go.Proofs.YtbchcipjpcdhfaaGreatDoor.Dt

theorem rpar_ret {w : World} {b : Nat} {vs : Array Value} {act : Act} {t : TypeId} {R : Ending → World → Prop} {E : Int} (hb : w.heap[b]? = some (.cells vs t (0, 0))) (hv : vs.size = 8) (h2 : act.tmps[2]? = some (.pointer (some ⟨b, 0, none⟩))) (h3 : act.tmps[3]? = some (.int .i64 E)) (hd : act.defers = []) (hR : R (.returned (.tuple #[.agg vs, .int .i64 E])) w) :
    bodyPost Tryz.prog Tryz.f9 R .ret act w := by
  obtain ⟨v0, v1, v2, v3, v4, v5, v6, v7, e⟩ := list8 (l := vs.toList) (by simpa using hv)
  obtain rfl : vs = #[v0, v1, v2, v3, v4, v5, v6, v7] := Array.toList_inj.1 e
  have y0 := cell_of_cells hb 0
  have y1 := cell_of_cells hb 1
  have y2 := cell_of_cells hb 2
  have y3 := cell_of_cells hb 3
  have y4 := cell_of_cells hb 4
  have y5 := cell_of_cells hb 5
  have y6 := cell_of_cells hb 6
  have y7 := cell_of_cells hb 7
  refine bodyPost_ret (v := .tuple #[.agg #[v0, v1, v2, v3, v4, v5, v6, v7], .int .i64 E]) ?_ hd hR
  simp at y0 y1 y2 y3 y4 y5 y6 y7
  simp [results, Tryz.results9, go_sem, y0, y1, y2, y3, y4, y5, y6, y7, h2, h3]
set_option linter.unusedSimpArgs false in
set_option maxHeartbeats 6400000 in
theorem rparse_cmd_any {w : World} {A : Option Addr} {c : Nat} {x : Sexp} (hr : SexpR w [.int .i8 x.kind, .string x.text, .slice A x.l.length c] x) :
    Calls Tryz.prog 9 #[agS x A c] w (CmdRes w (cmdO x) 30) := by
  have HR := Lib.hid hr
  clear hr
  go_enter Tryz.func9, Tryz.ntmps9
  unfold agS
  go_upto_region 1 with fail
  have XB := Lib.hid (show ((w.alloc (.cells #[.int .i8 x.kind, .string x.text, .slice A x.l.length c] 25)).alloc (.cells #[.int .i8 0, .string { data := #[] }, .int .i64 0, .slice none 0 0, .slice none 0 0, .slice none 0 0, .string { data := #[] }, .slice none 0 0] 32)).heap[w.heap.size]? = _ from (Below.heap_alloc _ _ _ (by simp)).trans (blk_new w _))
  have RB := Lib.hid (blk_new2 w (.cells #[.int .i8 x.kind, .string x.text, .slice A x.l.length c] 25) (.cells #[.int .i8 0, .string { data := #[] }, .int .i64 0, .slice none 0 0, .slice none 0 0, .slice none 0 0, .string { data := #[] }, .slice none 0 0] 32))
  have B1 := Lib.hid (((Below.refl w.heap.size w).alloc (Nat.le_refl _) (.cells #[.int .i8 x.kind, .string x.text, .slice A x.l.length c] 25)).alloc (by simp) (.cells #[.int .i8 0, .string { data := #[] }, .int .i64 0, .slice none 0 0, .slice none 0 0, .slice none 0 0, .string { data := #[] }, .slice none 0 0] 32))
  generalize ((w.alloc (.cells #[.int .i8 x.kind, .string x.text, .slice A x.l.length c] 25)).alloc (.cells #[.int .i8 0, .string { data := #[] }, .int .i64 0, .slice none 0 0, .slice none 0 0, .slice none 0 0, .string { data := #[] }, .slice none 0 0] 32)) = w1 at *
  obtain ⟨q0, q1, q2, _⟩ := three_cells XB.out
  have HP := Lib.hid (rparse_any8 HR.out B1.out)
  have HC := Lib.hid (show cmdO x = if x.may then parseO x else none from rfl)
  unfold agS at HP
  go_wp2_with fail
  refine HP.out.mono ?_
  rintro e w2 ⟨k, s, n, A1, n1, c1, A2, n2, c2, A3, n3, c3, r, A4, n4, c4, rfl, hcr, hb2⟩
  have RB2 := Lib.hid ((hb2.block _ (lt_of_block RB.out)).trans RB.out)
  have XB2 := Lib.hid ((hb2.block _ (lt_of_block XB.out)).trans XB.out)
  have B2 := Lib.hid (B1.out.trans (hb2.mono B1.out.size))
  have HCr := Lib.hid hcr
  have HLw := Lib.hid (lt_of_block RB.out)
  have CB3 := Lib.hid (blk_new w2 (.cells #[.int .i8 k, .string s, .int .i64 n, .slice A1 n1 c1, .slice A2 n2 c2, .slice A3 n3 c3, .string r, .slice A4 n4 c4] 32))
  have RB3 := Lib.hid ((Below.heap_alloc w2 (.cells #[.int .i8 k, .string s, .int .i64 n, .slice A1 n1 c1, .slice A2 n2 c2, .slice A3 n3 c3, .string r, .slice A4 n4 c4] 32) _ (lt_of_block RB2.out)).trans RB2.out)
  have XB3 := Lib.hid ((Below.heap_alloc w2 (.cells #[.int .i8 k, .string s, .int .i64 n, .slice A1 n1 c1, .slice A2 n2 c2, .slice A3 n3 c3, .string r, .slice A4 n4 c4] 32) _ (lt_of_block XB2.out)).trans XB2.out)
  have B3 := Lib.hid (B2.out.alloc B2.out.size (.cells #[.int .i8 k, .string s, .int .i64 n, .slice A1 n1 c1, .slice A2 n2 c2, .slice A3 n3 c3, .string r, .slice A4 n4 c4] 32))
  have K3 := Lib.hid (show Keeps (fun j => w.heap.size ≤ j ∧ j < w1.heap.size) w2 (w2.alloc (.cells #[.int .i8 k, .string s, .int .i64 n, .slice A1 n1 c1, .slice A2 n2 c2, .slice A3 n3 c3, .string r, .slice A4 n4 c4] 32)) from (Keeps.refl _ _).alloc _)
  clear hcr hb2 q0 q1 q2 RB XB B1 HP
  go_upto_region 2 with fail
  generalize w2.heap.size = n2h at *
  generalize w2.alloc (.cells #[.int .i8 k, .string s, .int .i64 n, .slice A1 n1 c1, .slice A2 n2 c2, .slice A3 n3 c3, .string r, .slice A4 n4 c4] 32) = w3 at *
  obtain ⟨q0, q1, q2, _⟩ := three_cells XB3.out
  cases hp : parseO x with
  | none =>
    have HO := Lib.hid (show cmdO x = none by rw [HC.out, hp]; split <;> rfl)
    clear hp
    obtain ⟨z0, z1, z2, z3, z4, z5, z6, z7, zf⟩ := eight_cells RB3.out
    go_wp2_with fail
    exact rpar_ret (w := set8 w3 (w.heap.size + 1) _ _ _ _ _ _ _ _) (eight_set RB3.out _ _ _ _ _ _ _ _) rfl rfl rfl rfl (cmdRes_none HO.out 30 (set8_keeps (S := fun _ => False) (Keeps.of_below B3.out _) (.inr (by omega)) _ _ _ _ _ _ _ _).none_below)
  | some cc =>
    have HPs := Lib.hid hp
    have HM := Lib.hid (rsxmay_any (w := w3) (SexpR.lasts _ _ _ _ B3.out HR.out))
    clear hp
    go_wp2_with fail
    refine HM.out.mono ?_
    rintro e w4 ⟨rfl, hb4⟩
    have RB4 := Lib.hid ((hb4.block _ (lt_of_block RB3.out)).trans RB3.out)
    have CB4 := Lib.hid ((hb4.block _ (lt_of_block CB3.out)).trans CB3.out)
    have B4 := Lib.hid (B3.out.trans (hb4.mono B3.out.size))
    have K4 := Lib.hid (K3.out.trans_same (Keeps.of_below hb4 _))
    clear hb4 q0 q1 q2 RB3 CB3 B3 HM
    obtain ⟨z0, z1, z2, z3, z4, z5, z6, z7, zf⟩ := eight_cells RB4.out
    obtain ⟨y0, y1, y2, y3, y4, y5, y6, y7, yf⟩ := eight_cells CB4.out
    cases hm : x.may with
    | false =>
      have HO := Lib.hid (show cmdO x = none by rw [HC.out, hm]; rfl)
      clear hm
      go_wp2_with fail
      exact rpar_ret (w := set8 w4 (w.heap.size + 1) _ _ _ _ _ _ _ _) (eight_set RB4.out _ _ _ _ _ _ _ _) rfl rfl rfl rfl (cmdRes_none HO.out 30 (set8_keeps (S := fun _ => False) (Keeps.of_below B4.out _) (.inr (by omega)) _ _ _ _ _ _ _ _).none_below)
    | true =>
      have HO := Lib.hid (show cmdO x = some cc by rw [HC.out, hm, if_pos rfl]; exact HPs.out)
      clear hm
      go_wp2_with fail
      exact rpar_ret (w := set8 w4 (w.heap.size + 1) _ _ _ _ _ _ _ _) (eight_set RB4.out _ _ _ _ _ _ _ _) rfl rfl rfl rfl (cmdRes_some HO.out 30 (set8_keeps (S := fun _ => False) (Keeps.of_below B4.out _) (.inr (by omega)) _ _ _ _ _ _ _ _).none_below (HCr.out cc HPs.out _ (set8_keeps K4.out (b := w.heap.size + 1) (.inl ⟨by omega, HLw.out⟩) _ _ _ _ _ _ _ _)))
end Go.Proofs.YtbchcipjpcdhfaaGreatDoor.Cm
