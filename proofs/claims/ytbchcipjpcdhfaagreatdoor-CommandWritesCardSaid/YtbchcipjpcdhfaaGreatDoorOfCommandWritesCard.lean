import Derived.Test.YtbchcipjpcdhfaaGreatDoorMd
import Derived.Test.YtbchcipjpcdhfaaGreatDoorMq
import Derived.Test.YtbchcipjpcdhfaaGreatDoorMv
import Derived.Test.YtbchcipjpcdhfaaGreatDoorMb
import Derived.Test.YtbchcipjpcdhfaaGreatDoorMa
import Derived.Test.YtbchcipjpcdhfaaGreatDoorMm
import Derived.Deep.RegionWith
import Derived.Test.YtbchcipjpcdhfaaGreatDoorMw
import Derived.Test.YtbchcipjpcdhfaaGreatDoorMp
import Derived.Test.YtbchcipjpcdhfaaGreatDoorMr
import Derived.Test.YtbchcipjpcdhfaaGreatDoorCards
import Derived.Test.YtbchcipjpcdhfaaGreatDoorTie
/- merged by wip/merge.py from: Law8Box LexRQ R3Text NumRMay NumRText R8Words R8Write R8May R8Text Law8Writes CommandWritesCard -/
/- Two commands boxed. No condition. -/
namespace Go.Proofs.YtbchcipjpcdhfaaGreatDoor.Cm
open Go.RowKit Go.Proofs.YtbchcipjpcdhfaaGreatDoor.Dt

/-- two commands boxed -/
structure Box2 (w w2 : World) (a b : Cmd) (A1 A2 A3 A4 B1 B2 B3 B4 : Option Addr) (c1 c2 c3 c4 d1 d2 d3 d4 : Nat) : Prop where
  n : w2.heap[w.heap.size]? = some (.cells #[.int .i8 a.kind, .string a.name, .int .i64 a.n, .slice A1 a.l.length c1, .slice A2 a.args.length c2, .slice A3 a.params.length c3, .string a.res, .slice A4 a.terms.length c4] 32 (0, 0))
  m : w2.heap[w.heap.size + 1]? = some (.cells #[.int .i8 b.kind, .string b.name, .int .i64 b.n, .slice B1 b.l.length d1, .slice B2 b.args.length d2, .slice B3 b.params.length d3, .string b.res, .slice B4 b.terms.length d4] 32 (0, 0))
  b : Below w.heap.size w w2
section
variable {w w2 w' : World} {a b : Cmd} {A1 A2 A3 A4 B1 B2 B3 B4 : Option Addr} {c1 c2 c3 c4 d1 d2 d3 d4 : Nat}
theorem Box2.on (h : Box2 w w2 a b A1 A2 A3 A4 B1 B2 B3 B4 c1 c2 c3 c4 d1 d2 d3 d4) (hb : Below w2.heap.size w2 w') : Box2 w w' a b A1 A2 A3 A4 B1 B2 B3 B4 c1 c2 c3 c4 d1 d2 d3 d4 :=
  ⟨(hb.block _ (lt_of_block h.n)).trans h.n, (hb.block _ (lt_of_block h.m)).trans h.m, h.b.trans (hb.mono h.b.size)⟩
theorem Box2.make (w : World) (a b : Cmd) (A1 A2 A3 A4 B1 B2 B3 B4 : Option Addr) (c1 c2 c3 c4 d1 d2 d3 d4 : Nat) :
    Box2 w ((w.alloc (.cells #[.int .i8 a.kind, .string a.name, .int .i64 a.n, .slice A1 a.l.length c1, .slice A2 a.args.length c2, .slice A3 a.params.length c3, .string a.res, .slice A4 a.terms.length c4] 32)).alloc (.cells #[.int .i8 b.kind, .string b.name, .int .i64 b.n, .slice B1 b.l.length d1, .slice B2 b.args.length d2, .slice B3 b.params.length d3, .string b.res, .slice B4 b.terms.length d4] 32)) a b A1 A2 A3 A4 B1 B2 B3 B4 c1 c2 c3 c4 d1 d2 d3 d4 := by
  refine ⟨(Below.heap_alloc _ _ _ (by simp)).trans (blk_new w _), ?_, ((Below.refl w.heap.size w).alloc (Nat.le_refl _) _).alloc (by simp) _⟩
  have hh := blk_new (w.alloc (.cells #[.int .i8 a.kind, .string a.name, .int .i64 a.n, .slice A1 a.l.length c1, .slice A2 a.args.length c2, .slice A3 a.params.length c3, .string a.res, .slice A4 a.terms.length c4] 32)) (.cells #[.int .i8 b.kind, .string b.name, .int .i64 b.n, .slice B1 b.l.length d1, .slice B2 b.args.length d2, .slice B3 b.params.length d3, .string b.res, .slice B4 b.terms.length d4] 32)
  have e : (w.alloc (.cells #[.int .i8 a.kind, .string a.name, .int .i64 a.n, .slice A1 a.l.length c1, .slice A2 a.args.length c2, .slice A3 a.params.length c3, .string a.res, .slice A4 a.terms.length c4] 32)).heap.size = w.heap.size + 1 := by simp
  rw [e] at hh
  exact hh
end
end Go.Proofs.YtbchcipjpcdhfaaGreatDoor.Cm
/- The document's lex: Plain, Quote. -/
namespace Go.Proofs.YtbchcipjpcdhfaaGreatDoor.Lx
open Go.RowKit

set_option maxHeartbeats 800000 in
theorem rdigit_any (c : Int) (w : World) :
    Calls Tryz.prog 98 #[.int .u8 c] w fun e w' => e = .returned (.bool (digitI c)) ∧ w = w' := by
  by_cases h2 : 48 ≤ c
  · by_cases h3 : c ≤ 57
    · have HR := Lib.hid (show digitI c = true by simp [digitI]; omega)
      go_enter Tryz.func98, Tryz.ntmps98
      go_wp2_with fail
      go_ret
      exact ⟨ret_bool HR.out.symm, rfl⟩
    · have h3' := decide_eq_false h3
      have HR := Lib.hid (show digitI c = false by simp [digitI]; omega)
      go_enter Tryz.func98, Tryz.ntmps98
      go_wp2_with fail
      go_ret
      exact ⟨ret_bool HR.out.symm, rfl⟩
  · have h2' := decide_eq_false h2
    have HR := Lib.hid (show digitI c = false by simp [digitI]; omega)
    go_enter Tryz.func98, Tryz.ntmps98
    go_wp2_with fail
    go_ret
    exact ⟨ret_bool HR.out.symm, rfl⟩
/-- signs alone, at least one, the first one no digit -/
def signsB (l : List UInt8) : Bool := (l.all fun c => signI c.toNat) && !l.isEmpty && !digitI (l.getD 0 0).toNat
theorem plain_split (l : List UInt8) : plainB l = (mayB l && signsB l && !resB l) := by
  unfold plainB signsB mayB
  have himp : (l.all fun c => signI c.toNat) = true → (l.all fun c => insideI c.toNat) = true := fun h => by
    rw [List.all_eq_true] at h ⊢
    intro c hc
    have := h c hc
    simp [signI] at this
    simp [insideI]
    omega
  cases hs : (l.all fun c => signI c.toNat) with
  | false => simp
  | true => rw [himp hs]; cases l.isEmpty <;> cases decide (l.length ≤ 100) <;> cases digitI (l.getD 0 0).toNat <;> cases resB l <;> rfl
set_option maxHeartbeats 1600000 in
theorem rsigns_any (s : ByteArray) (w : World) (hs : (s.size : Int) ≤ 9223372036854775807) :
    Calls Tryz.prog 126 #[.string s] w fun e w' => e = .returned (.bool (signsB (bs s))) ∧ w = w' := by
  have HM := Lib.hid (show signsB (bs s) = (((bs s).all fun c => signI c.toNat) && !(bs s).isEmpty && !digitI ((bs s).getD 0 0).toNat) from rfl)
  go_enter Tryz.func126, Tryz.ntmps126
  go_wp2_with fail
  go_loop [3] (fun v => ∃ k : Nat, k ≤ s.size ∧ v = .int .i64 k ∧ ((bs s).take k).all (fun c => signI c.toNat) = true) (fun v => s.size - (intOf v).toNat)
  case atStart => exact ⟨0, Nat.zero_le _, rfl, rfl⟩
  case round =>
    obtain ⟨k, hk, rfl, hall⟩ := hrel
    have HA := Lib.hid hall
    clear hall
    by_cases hlt : k < s.size
    · have hlt2 : (k : Int) < (s.size : Int) := by omega
      have HC := Lib.hid (rsign_any (s[k].toNat : Int) w (by omega) (by have := s[k].toNat_lt; omega))
      have HT := Lib.hid (bs_next hlt)
      have HMm := Lib.hid (bs_mem hlt)
      cases hb : signI (s[k].toNat : Int) with
      | true =>
        have HB := Lib.hid hb
        rw [hb] at HC
        clear hb
        go_wp2_with fail
        refine HC.out.mono ?_
        rintro e w' ⟨rfl, rfl⟩
        go_wp2_with fail
        go_round
        case rel => exact ⟨k + 1, by omega, by go_num, by rw [HT.out, List.all_append, HA.out]; simp [HB.out]⟩
        case measure => simp [intOf]; omega
      | false =>
        have HB := Lib.hid (show signsB (bs s) = false from by rw [HM.out, Bool.and_assoc, Bool.and_eq_false_iff]; left; rw [Bool.eq_false_iff]; intro h; rw [List.all_eq_true] at h; have := h _ HMm.out; rw [hb] at this; cases this)
        rw [hb] at HC
        clear hb
        go_wp2_with fail
        refine HC.out.mono ?_
        rintro e w' ⟨rfl, rfl⟩
        go_wp2_with fail
        go_ret
        exact ⟨ret_bool HB.out.symm, rfl⟩
    · obtain rfl : k = s.size := by omega
      have HB := Lib.hid (show signsB (bs s) = (!(bs s).isEmpty && !digitI ((bs s).getD 0 0).toNat) from by have h := HA.out; rw [List.take_of_length_le (by rw [bs_length]; omega)] at h; rw [HM.out, h, Bool.true_and])
      by_cases h0 : 0 < s.size
      · have h0' : (0 : Int) < (s.size : Int) := by omega
        have hne : s.toList.isEmpty = false := by rw [bs_toList, List.isEmpty_eq_false_iff, ← List.length_pos_iff, bs_length]; exact h0
        have e0 : (bs s).getD 0 0 = s[0] := by rw [List.getD_eq_getElem?_getD, bs_at h0]; rfl
        have HD := Lib.hid (rdigit_any (s[0].toNat : Int) w)
        replace HB := Lib.hid (show signsB (bs s) = !digitI (s[0].toNat : Int) by rw [HB.out, ← bs_toList, hne, bs_toList, e0]; rfl)
        clear e0
        go_wp2_with fail
        refine HD.out.mono ?_
        rintro e w' ⟨rfl, rfl⟩
        go_wp2_with fail
        go_ret
        exact ⟨ret_bool HB.out.symm, rfl⟩
      · have hb : bs s = [] := List.length_eq_zero_iff.1 (by rw [bs_length]; omega)
        have hne : s.toList = [] := by rw [bs_toList]; exact hb
        replace HB := Lib.hid (show signsB (bs s) = false by rw [HB.out, hb]; rfl)
        clear hb h0 hlt
        go_wp2_with fail
        go_ret
        exact ⟨ret_bool HB.out.symm, rfl⟩
set_option maxHeartbeats 1600000 in
theorem rplain_any (s : ByteArray) (w : World) (hs : (s.size : Int) ≤ 9223372036854775807) :
    Calls Tryz.prog 115 #[.string s] w fun e w' => e = .returned (.bool (plainB (bs s))) ∧ w = w' := by
  have H1 := Lib.hid (rmay_any s w hs)
  have H2 := Lib.hid (rsigns_any s w hs)
  have H3 := Lib.hid (rreserved_any s w)
  have HM := Lib.hid (plain_split (bs s))
  generalize plainB (bs s) = p at *
  generalize mayB (bs s) = a at *
  generalize signsB (bs s) = b at *
  generalize resB (bs s) = c at *
  cases a with
  | false =>
    go_enter Tryz.func115, Tryz.ntmps115
    go_wp2_with fail
    refine (H1.out).mono ?_
    rintro e w' ⟨rfl, rfl⟩
    go_wp2_with fail
    go_ret
    exact ⟨ret_bool (by rw [HM.out]; rfl), rfl⟩
  | true =>
    cases b with
    | false =>
      go_enter Tryz.func115, Tryz.ntmps115
      go_wp2_with fail
      refine (H1.out).mono ?_
      rintro e w' ⟨rfl, rfl⟩
      go_wp2_with fail
      refine (H2.out).mono ?_
      rintro e w' ⟨rfl, rfl⟩
      go_wp2_with fail
      go_ret
      exact ⟨ret_bool (by rw [HM.out]; rfl), rfl⟩
    | true =>
      go_enter Tryz.func115, Tryz.ntmps115
      go_wp2_with fail
      refine (H1.out).mono ?_
      rintro e w' ⟨rfl, rfl⟩
      go_wp2_with fail
      refine (H2.out).mono ?_
      rintro e w' ⟨rfl, rfl⟩
      go_wp2_with fail
      refine (H3.out).mono ?_
      rintro e w' ⟨rfl, rfl⟩
      go_wp2_with fail
      go_ret
      exact ⟨ret_bool (by rw [HM.out]; rfl), rfl⟩
set_option maxHeartbeats 1600000 in
theorem rquote_any (s : ByteArray) (w : World) (hs : (s.size : Int) ≤ 140737488351232) :
    Calls Tryz.prog 94 #[.string s] w fun e w' => e = .returned (.string (quoteS s)) ∧ w = w' := by
  have HP := Lib.hid (rplain_any s w (by omega))
  have HR := Lib.hid (rreserved_any s w)
  have HM := Lib.hid (show quoteS s = if plainB (bs s) || resB (bs s) then s else { data := #[124] } ++ s ++ { data := #[124] } from rfl)
  generalize plainB (bs s) = p at *
  generalize resB (bs s) = r at *
  cases p with
  | true =>
    go_enter Tryz.func94, Tryz.ntmps94
    go_wp2_with fail
    refine (HP.out).mono ?_
    rintro e w' ⟨rfl, rfl⟩
    go_wp2_with fail
    go_ret
    exact ⟨by rw [HM.out]; rfl, rfl⟩
  | false =>
    cases r with
    | true =>
      go_enter Tryz.func94, Tryz.ntmps94
      go_wp2_with fail
      refine (HP.out).mono ?_
      rintro e w' ⟨rfl, rfl⟩
      go_wp2_with fail
      refine (HR.out).mono ?_
      rintro e w' ⟨rfl, rfl⟩
      go_wp2_with fail
      go_ret
      exact ⟨by rw [HM.out]; rfl, rfl⟩
    | false =>
      go_enter Tryz.func94, Tryz.ntmps94
      go_wp2_with fail
      refine (HP.out).mono ?_
      rintro e w' ⟨rfl, rfl⟩
      go_wp2_with fail
      refine (HR.out).mono ?_
      rintro e w' ⟨rfl, rfl⟩
      go_wp2_with fail
      go_ret
      exact ⟨by rw [HM.out]; rfl, rfl⟩
end Go.Proofs.YtbchcipjpcdhfaaGreatDoor.Lx
/- An expression's text: the document's answer. -/
namespace Go.Proofs.YtbchcipjpcdhfaaGreatDoor.Dt
open Go.RowKit

def strL (l : List UInt8) : ByteArray := ⟨l.toArray⟩
theorem strL_app (a b : List UInt8) : strL a ++ strL b = strL (a ++ b) := by
  unfold strL
  rw [ByteArray.mk_append_mk]
theorem strL_bs (s : ByteArray) : strL (Lx.bs s) = s := by
  apply Lx.bs_inj.1
  exact Lx.bs_mk _
theorem strL_quote (s : ByteArray) : Lx.quoteS s = strL (Lx.quoteL (Lx.bs s)) := by
  rw [← Lx.bs_quoteS, strL_bs]
theorem strL_size (l : List UInt8) : (strL l).size = l.length := by rw [← Lx.bs_length]; unfold strL; rw [Lx.bs_mk]
/-- what is told of an expression's text -/
def RTextAt (y : Sexp) : Prop := ∀ (W : World) (A : Option Addr) (c : Nat), SexpR W [.int .i8 y.kind, .string y.text, .slice A y.l.length c] y → y.textL.length ≤ 140737488355328 → Calls Tryz.prog 75 #[.agg #[.int .i8 y.kind, .string y.text, .slice A y.l.length c]] W fun e w' => e = .returned (.string (strL y.textL)) ∧ Below W.heap.size W w'
set_option maxRecDepth 100000 in
set_option maxHeartbeats 6400000 in
theorem rtext_step (x : Sexp) (hs : ∀ y ∈ x.l, RTextAt y) : RTextAt x := by
  intro w A c hr hlen
  obtain ⟨A0, c0, e0, hl, hc, hcm, htx, hlb, _⟩ := hr.open'
  simp only [List.cons.injEq, Value.slice.injEq, and_true, true_and] at e0
  obtain ⟨rfl, rfl⟩ := e0
  have HE := Lib.hid (Sexp.textL_eq x)
  obtain ⟨q0, q1, q2, z0⟩ := box_cells w (.int .i8 x.kind) (.string x.text) (.slice A x.l.length c) 25
  have B0 := Lib.hid ((Below.refl w.heap.size w).alloc (Nat.le_refl _) (.cells #[.int .i8 x.kind, .string x.text, .slice A x.l.length c] 25))
  have HQt := Lib.hid (fun W => Lx.rquote_any x.text W (by omega))
  by_cases h3 : x.kind = 3
  · have HX := Lib.hid (show x.textL = 40 :: (Sexp.textsL x.l ++ [41]) by rw [HE.out, h3]; rfl)
    have HS := Lib.hid hs
    have HN := Lib.hid (show (Sexp.textsL x.l).length + 2 ≤ 140737488355328 by rw [HX.out] at hlen; simp at hlen; omega)
    have HL := Lib.hid (hl.on SexpR.lasts B0.out)
    rw [h3] at q0 q1 q2 z0 B0 HL ⊢
    generalize x.textL = st at *
    generalize x.text = t at *
    generalize x.l = l at *
    clear HE HQt hs hl hr h3 hlen
    go_enter Tryz.func75, Tryz.ntmps75
    go_wp2_with fail
    generalize w.alloc (.cells #[.int .i8 3, .string t, .slice A l.length c] 25) = w0 at *
    go_loopw [3, 4] (fun u v wr => ∃ k : Nat, k ≤ l.length ∧ v = .int .i64 k ∧ u = .string (strL (40 :: Sexp.textsL (l.take k))) ∧ Below w0.heap.size w0 wr) (fun _ v _ => l.length - (intOf v).toNat)
    case atStart => exact ⟨0, Nat.zero_le _, rfl, rfl, Below.refl _ _⟩
    case round =>
      obtain ⟨k, hk, rfl, rfl, hb⟩ := hrel
      have HB := Lib.hid hb
      have p0 := ((bcell hb).1 w.heap.size 0 (by omega)).trans q0
      have p1 := ((bcell hb).1 w.heap.size 1 (by omega)).trans q1
      have p2 := ((bcell hb).1 w.heap.size 2 (by omega)).trans q2
      by_cases hlt : k < l.length
      · have hlt2 : (k : Int) < (l.length : Int) := by omega
        have hy := List.getElem?_eq_getElem hlt
        have hym := List.getElem_mem hlt
        generalize l[k] = y at hy hym
        have HTk := Lib.hid (show Sexp.textsL (l.take (k + 1)) = Sexp.textsL (l.take k) ++ (if k = 0 then [] else [32]) ++ y.textL by
          rw [List.take_add_one, hy]
          show Sexp.textsL (l.take k ++ [y]) = _
          rw [texts_snoc, List.length_take, Nat.min_eq_left hk])
        obtain ⟨b, o, A', c', rfl, hbl, e0, e1, e2, hr⟩ := sexp_cells (HL.out.on SexpR.lasts hb) hy
        have hn1 := HN.out
        have hn2 := texts_take l (k + 1)
        have hn3 : (Sexp.textsL (l.take (k + 1))).length = (Sexp.textsL (l.take k)).length + (if k = 0 then 0 else 1) + y.textL.length := by rw [HTk.out]; by_cases h : k = 0 <;> simp [h]; omega
        have hn4 : (Sexp.textsL (l.take k)).length + y.textL.length ≤ 140737488355328 := by omega
        have HC := Lib.hid (HS.out y hym wr A' c' hr (by omega))
        have hs0 : ((strL (40 :: Sexp.textsL (l.take k))).size : Int) ≤ 140737488355330 := by rw [strL_size, List.length_cons]; omega
        have hs1 : ((strL y.textL).size : Int) ≤ 140737488355330 := by rw [strL_size]; omega
        clear hb hr hy hym q0 q1 q2 hn1 hn2 hn3 hn4
        by_cases hk0 : k = 0
        · have HTe := Lib.hid (show strL (40 :: Sexp.textsL (l.take k)) ++ strL y.textL = strL (40 :: Sexp.textsL (l.take (k + 1))) by rw [HTk.out, if_pos hk0, strL_app]; simp)
          have hk1 : ¬ (0 < k) := by omega
          replace hk0 := Lib.hid hk0
          clear HTk
          generalize strL (40 :: Sexp.textsL (l.take k)) = s0 at *
          generalize strL y.textL = s1 at *
          go_wp2_with fail
          refine HC.out.mono ?_
          rintro e w2 ⟨rfl, hb2⟩
          have HB2 := Lib.hid (HB.out.trans (hb2.mono HB.out.size))
          clear hb2
          go_wp2_with fail
          go_roundw
          case rel => exact ⟨k + 1, by omega, by go_num, congrArg Value.string HTe.out, HB2.out⟩
          case measure => simp [intOf]; omega
        · have HTe := Lib.hid (show strL (40 :: Sexp.textsL (l.take k)) ++ { data := #[32] } ++ strL y.textL = strL (40 :: Sexp.textsL (l.take (k + 1))) by rw [HTk.out, if_neg hk0, show ({ data := #[32] } : ByteArray) = strL [32] from rfl, strL_app, strL_app]; simp)
          have hk1 : 0 < k := by omega
          replace hk0 := Lib.hid hk0
          clear HTk
          generalize strL (40 :: Sexp.textsL (l.take k)) = s0 at *
          generalize strL y.textL = s1 at *
          go_wp2_with fail
          refine HC.out.mono ?_
          rintro e w2 ⟨rfl, hb2⟩
          have HB2 := Lib.hid (HB.out.trans (hb2.mono HB.out.size))
          clear hb2
          go_wp2_with fail
          go_roundw
          case rel => exact ⟨k + 1, by omega, by go_num, congrArg Value.string HTe.out, HB2.out⟩
          case measure => simp [intOf]; omega
      · obtain rfl : k = l.length := by omega
        have HTe := Lib.hid (show strL (40 :: Sexp.textsL (l.take l.length)) ++ { data := #[41] } = strL st by rw [HX.out, List.take_length, show ({ data := #[41] } : ByteArray) = strL [41] from rfl, strL_app]; simp)
        have HB2 := Lib.hid (B0.out.trans (HB.out.mono (by omega)))
        have hs0 : ((strL (40 :: Sexp.textsL (l.take l.length))).size : Int) ≤ 140737488355330 := by have := HN.out; rw [strL_size, List.length_cons, List.take_length]; omega
        generalize strL (40 :: Sexp.textsL (l.take l.length)) = s0 at *
        clear hb q0 q1 q2
        go_wp2_with fail
        go_ret
        exact ⟨congrArg (fun u => Ending.returned (Value.string u)) HTe.out, HB2.out⟩
  · have n3 : (x.kind == 3) = false := beq_eq_false_iff_ne.2 h3
    by_cases h0 : x.kind = 0
    · have HX := Lib.hid (show strL x.textL = Lx.quoteS x.text by rw [HE.out, if_pos h0, strL_quote])
      rw [h0] at q0 q1 q2 z0 B0 ⊢
      generalize Lx.quoteS x.text = qs at *
      clear h0 h3 n3 HE hs hl hr
      go_enter Tryz.func75, Tryz.ntmps75
      go_wp2_with fail
      refine (HQt.out _).mono ?_
      rintro e w' ⟨rfl, rfl⟩
      go_wp2_with fail
      go_ret
      exact ⟨(congrArg (fun u => Ending.returned (Value.string u)) HX.out).symm, B0.out⟩
    · have n0 : (x.kind == 0) = false := beq_eq_false_iff_ne.2 h0
      by_cases h2 : x.kind = 2
      · have HX := Lib.hid (show strL x.textL = { data := #[58] } ++ x.text by rw [HE.out, if_neg h0, if_pos h2, show ({ data := #[58] } : ByteArray) = strL [58] from rfl]; exact ((congrArg (strL [58] ++ ·) (strL_bs x.text)).symm.trans (strL_app _ _)).symm)
        have hs0 : (x.text.size : Int) ≤ 140737488355330 := by omega
        rw [h2] at q0 q1 q2 z0 B0 ⊢
        clear h0 h2 h3 n3 n0 HE hs hl hr HQt
        go_enter Tryz.func75, Tryz.ntmps75
        go_wp2_with fail
        go_ret
        exact ⟨(congrArg (fun u => Ending.returned (Value.string u)) HX.out).symm, B0.out⟩
      · have n2 : (x.kind == 2) = false := beq_eq_false_iff_ne.2 h2
        have HX := Lib.hid (show strL x.textL = x.text by rw [HE.out, if_neg h0, if_neg h2, if_neg h3, strL_bs])
        clear h0 h2 h3 HE hs hl hr HQt
        go_enter Tryz.func75, Tryz.ntmps75
        go_wp2_with fail
        go_ret
        exact ⟨(congrArg (fun u => Ending.returned (Value.string u)) HX.out).symm, B0.out⟩
theorem rtext_all : ∀ (n : Nat) (x : Sexp), SizeOf.sizeOf x < n → RTextAt x := by
  intro n
  induction n with
  | zero => intro x hx; omega
  | succ n ih => exact fun x hx => rtext_step x fun y hy => ih y (by have := Sexp.mem_lt hy; omega)
theorem textB_str (x : Sexp) (h : x.textE = 0) : x.textB = strL x.textL := by unfold Sexp.textB; rw [if_pos h]; rfl
set_option maxHeartbeats 3200000 in
theorem rstext_any {w : World} {A : Option Addr} {c : Nat} {x : Sexp} (h : SexpR w [.int .i8 x.kind, .string x.text, .slice A x.l.length c] x) (hlen : x.may = true → x.textL.length ≤ 140737488355328) :
    Calls Tryz.prog 42 #[.agg #[.int .i8 x.kind, .string x.text, .slice A x.l.length c]] w fun e w' => e = .returned (.tuple #[.string x.textB, .int .i64 x.textE]) ∧ Below w.heap.size w w' := by
  have HB := Lib.hid ((Below.refl w.heap.size w).alloc (Nat.le_refl _) (.cells #[.int .i8 x.kind, .string x.text, .slice A x.l.length c] 25))
  obtain ⟨q0, q1, q2, z0⟩ := box_cells w (.int .i8 x.kind) (.string x.text) (.slice A x.l.length c) 25
  have HM := Lib.hid (rsxmay_any (SexpR.lasts _ _ _ _ HB.out h))
  have HE := Lib.hid (show x.textE = if x.may then (if 8192 < x.textL.length then 41 else 0) else 2 from rfl)
  have HT := Lib.hid (show x.textB = if x.textE = 0 then ⟨x.textL.toArray⟩ else { data := #[] } from rfl)
  have HR := Lib.hid (SexpR.lasts _ _ _ _ HB.out h)
  have HAll := Lib.hid (rtext_all _ x (Nat.lt_succ_self _))
  have HSz := Lib.hid (strL_size x.textL)
  have HLen := Lib.hid hlen
  clear h hlen
  go_enter Tryz.func42, Tryz.ntmps42
  go_upto_region 1 with fail
  generalize w.alloc (.cells #[.int .i8 x.kind, .string x.text, .slice A x.l.length c] 25) = w1 at *
  go_wp2_with fail
  refine HM.out.mono ?_
  rintro e w2 ⟨rfl, hb2⟩
  have B2 := Lib.hid (HB.out.trans (hb2.mono HB.out.size))
  have p0 := ((bcell hb2).1 w.heap.size 0 (by omega)).trans q0
  have p1 := ((bcell hb2).1 w.heap.size 1 (by omega)).trans q1
  have p2 := ((bcell hb2).1 w.heap.size 2 (by omega)).trans q2
  have HTx := Lib.hid (fun hl => HAll.out w2 A c (SexpR.lasts _ _ _ _ hb2 HR.out) hl)
  clear hb2 q0 q1 q2
  cases hm : x.may with
  | false =>
    have HR := Lib.hid (show x.textE = 2 by rw [HE.out, hm]; rfl)
    have HR2 := Lib.hid (show x.textB = { data := #[] } by rw [HT.out, HR.out]; rfl)
    go_wp2_with fail
    go_ret2
    exact ⟨pair_str_int ⟨HR2.out.symm, HR.out.symm⟩, B2.out⟩
  | true =>
    have HR := Lib.hid (show x.textE = if 8192 < x.textL.length then 41 else 0 by rw [HE.out, hm]; rfl)
    have HBs := Lib.hid (textB_str x)
    replace HTx := Lib.hid (HTx.out (HLen.out hm))
    clear hm HE
    generalize strL x.textL = sl at *
    go_wp2_with fail
    refine HTx.out.mono ?_
    rintro e w3 ⟨rfl, hb3⟩
    have B3 := Lib.hid (B2.out.trans (hb3.mono B2.out.size))
    clear hb3 p0 p1 p2
    have hsz := HSz.out
    by_cases h8 : 8192 < x.textL.length
    · have h8' : (8192 : Int) < (sl.size : Int) := by omega
      have HR1 := Lib.hid (show x.textE = 41 by rw [HR.out, if_pos h8])
      have HR2 := Lib.hid (show x.textB = { data := #[] } by rw [HT.out, HR1.out]; rfl)
      clear hsz h8
      go_wp2_with fail
      go_ret2
      exact ⟨pair_str_int ⟨HR2.out.symm, HR1.out.symm⟩, B3.out⟩
    · have h8' : decide ((8192 : Int) < (sl.size : Int)) = false := decide_eq_false (by omega)
      have HR1 := Lib.hid (show x.textE = 0 by rw [HR.out, if_neg h8])
      have HR2 := Lib.hid (HBs.out HR1.out)
      clear hsz h8
      go_wp2_with fail
      go_ret2
      exact ⟨pair_str_int ⟨HR2.out.symm, HR1.out.symm⟩, B3.out⟩
end Go.Proofs.YtbchcipjpcdhfaaGreatDoor.Dt
/- The document's May of numbers. -/
namespace Go.Proofs.YtbchcipjpcdhfaaGreatDoor
open Go.RowKit

set_option maxHeartbeats 400000 in
theorem rmay_any (n : Int) (w : World) :
    Calls Tryz.prog 111 #[.int .i64 n] w fun e w' => e = .returned (.bool (mayB n)) ∧ w = w' := by
  go_enter Tryz.func111, Tryz.ntmps111
  go_wp2
  all_goals go_ret
  all_goals refine ⟨ret_bool ?_, rfl⟩
  all_goals simp [mayB]
  all_goals omega
end Go.Proofs.YtbchcipjpcdhfaaGreatDoor
/- The walks of layer 1's reference of Text. -/
namespace Go.Proofs.YtbchcipjpcdhfaaGreatDoor
open Go.RowKit

/-- one letter as a string -/
theorem conv_one (w : World) (c : Nat) (hc : c < 256) : (convert 85 9 (.slice (some ⟨w.heap.size, 0, none⟩) 1 1)).run Tryz.prog (w.alloc (.cells #[.int .u8 (c : Int)] 5)) =
    .ok (.string ⟨[UInt8.ofNat c].toArray⟩) (w.alloc (.cells #[.int .u8 (c : Int)] 5)) := by
  refine run_convert_bytes_back (P := Tryz.prog) (w.alloc (.cells #[.int .u8 (c : Int)] 5)) 85 9 5 ⟨w.heap.size, 0, none⟩ 1 [UInt8.ofNat c] Tryz.underlying85 Tryz.underlying5 Tryz.underlying9 ?_
  intro j hj
  have h0 : j = 0 := by simpa using hj
  subst h0
  rw [addr_add0, World.cell?_alloc_at _ _ _ _ rfl]
  simp only [List.getElem_cons_zero, UInt8.toNat_ofNat']
  rw [Nat.mod_eq_of_lt hc]; rfl

theorem digits_last {m : Nat} (h : m / 10 = 0) : Lib.decDigits m = [UInt8.ofNat (48 + m % 10)] := by
  have : m < 10 := by omega
  rw [Lib.decDigits_one this, Nat.mod_eq_of_lt this]
theorem digits_more {m : Nat} (h : m / 10 ≠ 0) : Lib.decDigits m = Lib.decDigits (m / 10) ++ [UInt8.ofNat (48 + m % 10)] := by
  rw [Lib.decDigits, dif_neg (by omega)]
theorem str_add (c : UInt8) (l : List UInt8) : (ByteArray.mk [c].toArray ++ ByteArray.mk l.toArray) = ByteArray.mk (c :: l).toArray := by
  rw [ByteArray.mk_append_mk]; rfl
theorem str_congr {a b : List UInt8} (h : a = b) : ByteArray.mk a.toArray = ByteArray.mk b.toArray := by rw [h]
theorem digits_len {n : Nat} (hn : (n : Int) ≤ 4611686018427387904) : (Lib.decDigits n).length ≤ 21 := by
  rw [← Lib.itoa_nonneg]; exact Lib.itoa_length_le _ (by omega) (by omega)

set_option maxRecDepth 100000 in
set_option maxHeartbeats 800000 in
theorem rtext_pos (n : Nat) (hn : (n : Int) ≤ 4611686018427387904) (w : World) :
    Calls Tryz.prog 89 #[.int .i64 n] w fun e w' => e = .returned (.tuple #[.string ⟨(textL n).toArray⟩, .int .i64 (textE n)]) ∧ Below w.heap.size w w' := by
  have hm : mayB n = true := by rw [mayB_iff]; omega
  have HX := Lib.hid (text_pos hm (by omega))
  have HM := Lib.hid hm
  clear hm
  go_enter Tryz.func89, Tryz.ntmps89
  go_wp2_with (go_at_call 111; refine (rmay_any _ _).mono ?_; rw [HM.out]; rintro e w' ⟨rfl, rfl⟩)
  go_loopw [0, 6] (fun x t wr => ∃ (m : Nat) (l : List UInt8), m ≤ n ∧ x = .int .i64 m ∧ t = .string ⟨l.toArray⟩ ∧ Lib.decDigits n = Lib.decDigits m ++ l ∧ Below w.heap.size w wr) (fun x _ _ => (intOf x).toNat)
  case atStart => exact ⟨n, [], Nat.le_refl _, rfl, rfl, by simp, Below.refl _ _⟩
  case round =>
    obtain ⟨m, l, hm, rfl, rfl, hd, hb⟩ := hrel
    have hc := conv_one wr (48 + m % 10) (by omega)
    have hl : l.length ≤ 21 := by
      have h1 := digits_len hn
      rw [hd, List.length_append] at h1; omega
    have HD := Lib.hid hd
    have HB := Lib.hid hb
    clear hd hb
    rw [show ((48 + m % 10 : Nat) : Int) = 48 + (m : Int) % 10 by omega] at hc
    generalize hcd : UInt8.ofNat (48 + m % 10) = c at hc
    by_cases h0 : m / 10 = 0
    · have HL := Lib.hid ((digits_last h0).trans (by rw [hcd]))
      have h9 : m < 10 := by omega
      clear h0 hcd
      go_wp2_with fail
      go_ret2
      have hx := HX.out
      refine ⟨pair_str_int ⟨?_, hx.2.symm⟩, ?_⟩
      · rw [str_add, hx.1, Lib.itoa_nonneg, HD.out, HL.out]; rfl
      · exact HB.out.alloc HB.out.size _
    · have HL := Lib.hid ((digits_more h0).trans (by rw [hcd]))
      have h9 : ((m : Int) / 10 == 0) = false := by rw [beq_eq_false_iff_ne]; omega
      have h10 : 10 ≤ m := by omega
      clear h0 hcd
      go_wp2_with fail
      go_roundw
      case rel =>
        refine ⟨m / 10, c :: l, by omega, by go_num, ?_, ?_, HB.out.alloc HB.out.size _⟩
        · exact congrArg Value.string (str_add c l)
        · rw [HD.out, HL.out]; simp
      case measure => simp [intOf]; omega

set_option maxRecDepth 100000 in
set_option maxHeartbeats 800000 in
theorem rtext_any (n : Int) (hn : I64 n) (w : World) :
    Calls Tryz.prog 89 #[.int .i64 n] w fun e w' => e = .returned (.tuple #[.string ⟨(textL n).toArray⟩, .int .i64 (textE n)]) ∧ Below w.heap.size w w' := by
  cases hm : mayB n with
  | true =>
    have hb := mayB_iff.1 hm
    obtain ⟨hb0, hb1⟩ := hb
    by_cases h0 : n < 0
    · have HX := Lib.hid (text_neg hm h0)
      have HM := Lib.hid hm
      clear hm
      have hrec := rtext_pos (-n).toNat (by omega) w
      rw [show (((-n).toNat : Nat) : Int) = -n by omega] at hrec
      have hp := text_pos (n := -n) (by rw [mayB_iff]; omega) (by omega)
      rw [hp.1, hp.2] at hrec
      have HR := Lib.hid hrec
      clear hrec hp
      go_enter Tryz.func89, Tryz.ntmps89
      go_wp2_with (go_at_call 111; refine (rmay_any _ _).mono ?_; rw [HM.out]; rintro e w' ⟨rfl, rfl⟩)
      refine HR.out.mono ?_
      rintro e w1 ⟨rfl, hb⟩
      have HB := Lib.hid hb
      clear hb
      have hlen := Lib.itoa_length_le (-n) (by omega) (by omega)
      generalize Lib.itoa (-n) = L at *
      go_wp2_with fail
      have hx := HX.out
      go_ret2
      exact ⟨pair_str_int ⟨by rw [hx.1]; show ByteArray.mk [40, 45, 32].toArray ++ ByteArray.mk L.toArray ++ ByteArray.mk [41].toArray = _; rw [ByteArray.mk_append_mk, ByteArray.mk_append_mk], hx.2.symm⟩, HB.out⟩
    · obtain ⟨k, rfl⟩ := Int.eq_ofNat_of_zero_le (show 0 ≤ n by omega)
      exact rtext_pos k hb1 w
  | false =>
    have HX := Lib.hid (text_no hm)
    have HM := Lib.hid hm
    clear hm
    go_enter Tryz.func89, Tryz.ntmps89
    go_wp2_with (go_at_call 111; refine (rmay_any _ _).mono ?_; rw [HM.out]; rintro e w' ⟨rfl, rfl⟩)
    have hx := HX.out
    go_ret2
    exact ⟨pair_str_int ⟨by rw [hx.1], hx.2.symm⟩, Below.refl _ _⟩
end Go.Proofs.YtbchcipjpcdhfaaGreatDoor
/- The document's words of a written command: a symbol, a numeral, a list, a list of symbols. -/
namespace Go.Proofs.YtbchcipjpcdhfaaGreatDoor.Cm
open Go.RowKit Go.Proofs.YtbchcipjpcdhfaaGreatDoor.Dt

theorem rsym_any (s : ByteArray) (w : World) : Calls Tryz.prog 69 #[.string s] w fun e w' => e = .returned (.agg #[.int .i8 0, .string s, .slice none 0 0]) ∧ Below w.heap.size w w' := by
  go_enter Tryz.func69, Tryz.ntmps69
  go_wp2_with fail
  exact sexp_ret Tryz.results69 (blk_new _ _) rfl rfl ⟨rfl, (Below.refl _ _).alloc (Nat.le_refl _) _⟩
theorem rlist_any (A : Option Addr) (n c : Nat) (w : World) : Calls Tryz.prog 39 #[.slice A n c] w fun e w' => e = .returned (.agg #[.int .i8 3, .string { data := #[] }, .slice A n c]) ∧ Below w.heap.size w w' := by
  go_enter Tryz.func39, Tryz.ntmps39
  go_wp2_with fail
  exact sexp_ret Tryz.results39 (blk_new _ _) rfl rfl ⟨rfl, (Below.refl _ _).alloc (Nat.le_refl _) _⟩
theorem rnum_any (n : Int) (hn : I64 n) (w : World) : Calls Tryz.prog 70 #[.int .i64 n] w fun e w' => e = .returned (.agg #[.int .i8 1, .string ⟨(textL n).toArray⟩, .slice none 0 0]) ∧ Below w.heap.size w w' := by
  have HT := Lib.hid (rtext_any n hn (w.alloc (.cells #[.int .i8 0, .string { data := #[] }, .slice none 0 0] 25)))
  have HZ := Lib.hid (blk_new w (.cells #[.int .i8 0, .string { data := #[] }, .slice none 0 0] 25))
  go_enter Tryz.func70, Tryz.ntmps70
  go_wp2_with fail
  refine HT.out.mono ?_
  rintro e w1 ⟨rfl, hb⟩
  have HB := Lib.hid (((Below.refl w.heap.size w).alloc (Nat.le_refl _) (.cells #[.int .i8 0, .string { data := #[] }, .slice none 0 0] 25)).trans (hb.mono (by simp)))
  have HZ1 := Lib.hid ((hb.block _ (lt_of_block HZ.out)).trans HZ.out)
  obtain ⟨z0, z1, z2, zf⟩ := three_cells HZ1.out
  clear hb
  go_wp2_with fail
  exact sexp_ret (w := set3 w1 w.heap.size (.int .i8 1) (.string ⟨(textL n).toArray⟩) (.slice none 0 0)) Tryz.results70 (three_set HZ1.out _ _ _) rfl rfl ⟨rfl, (set3_keeps (S := fun _ => False) (Keeps.of_below HB.out _) (.inr (Nat.le_refl _)) _ _ _).none_below⟩
set_option maxHeartbeats 3200000 in
theorem rsymbols_any (l : List ByteArray) (A : Option Addr) (c : Nat) (w : World) (hl : Lies 1 StrR w A l) (h2 : l.length ≤ 1000000) : Calls Tryz.prog 71 #[.slice A l.length c] w (SymsPost w l) := by
  have HL := Lib.hid hl
  have HC := Lib.hid (fun A n c W => rlist_any A n c W)
  have HS := Lib.hid (fun s W => rsym_any s W)
  have HZ := Lib.hid (blk_new w (.cells #[.int .i8 0, .string { data := #[] }, .slice none 0 0] 25))
  have HB := Lib.hid ((Below.refl w.heap.size w).alloc (Nat.le_refl _) (.cells #[.int .i8 0, .string { data := #[] }, .slice none 0 0] 25))
  obtain ⟨i0, hi0, z0, z1, z2⟩ := info_parts info_sexp
  have I0 := Lib.hid hi0
  have I1 := Lib.hid z0
  have I2 := Lib.hid z1
  have I3 := Lib.hid z2
  clear hi0 z0 z1 z2 hl
  go_enter Tryz.func71, Tryz.ntmps71
  go_upto_region 2 with fail
  generalize w.alloc (.cells #[.int .i8 0, .string { data := #[] }, .slice none 0 0] 25) = w1 at *
  go_wp2_with fail
  go_loopw [3, 4] (fun v' i' wr => ∃ k : Nat, k ≤ l.length ∧ i' = .int .i64 k ∧ Grows 3 SymR 25 w w1.heap.size wr v' (l.take k) ∧ Below w1.heap.size w1 wr) (fun _ i' _ => l.length - (intOf i').toNat)
  case atStart => exact ⟨0, Nat.zero_le _, rfl, Grows.nil _, Below.refl _ _⟩
  case round =>
    obtain ⟨k, hk, rfl, hg, hb⟩ := hrel
    have HG := Lib.hid hg
    have HBr := Lib.hid hb
    have HBW := Lib.hid (HB.out.trans (hb.mono HB.out.size))
    obtain ⟨vals, ho, hrr⟩ := hg.row
    have hlk : (l.take k).length = k := by simp; omega
    have hvl : vals.length = (l.take k).length * 3 := ho.1
    rw [hlk] at ho
    obtain ⟨Ao, co, rfl⟩ := shape_of_owns ho
    have HOw := Lib.hid ho
    have HRr := Lib.hid hrr
    have HLk := Lib.hid hlk
    have HVl := Lib.hid hvl
    have HSz := Lib.hid hb.size
    clear hg ho hrr hlk hvl hb
    by_cases hlt : k < l.length
    · have hlt2 : (k : Int) < (l.length : Int) := by omega
      obtain ⟨b, o, rfl, p0⟩ := str_get (HL.out.on StrR.lasts HBW.out) hlt
      have HSs := Lib.hid (str_size HL.out hlt)
      have HTk := Lib.hid (take_snoc (d := noS) hlt)
      generalize l.getD k noS = s at *
      go_wp2_with fail
      refine (HS.out s _).mono ?_
      rintro e w2 ⟨rfl, hb2⟩
      have HO2 := Lib.hid (show World.ownsRow (w2.alloc (.cells #[.int .i8 0, .string s, .slice none 0 0] 25)) w1.heap.size 25 3 (.slice Ao k co) k vals from (owns_keep HOw.out (Keeps.of_below hb2 (fun _ => False)) (fun _ h => h.elim)).alloc _)
      have HCl := Lib.hid (Cells.new w2 [.int .i8 0, .string s, .slice none 0 0] 25 (0, 0))
      have HB2 := Lib.hid ((HBr.out.trans (hb2.mono HSz.out)).alloc (Nat.le_trans HSz.out hb2.size) (.cells #[.int .i8 0, .string s, .slice none 0 0] 25))
      have HSz2 := Lib.hid (Nat.le_trans HSz.out hb2.size)
      have hk48 : k < 1000000 := Nat.lt_of_lt_of_le hlt h2
      clear p0 hb2
      go_wp2_with (at_builtin; refine wpList_append_at rfl (.tmp 11) (.tmp 17) _ rfl w1.heap.size 25 i0 (.agg #[.int .i8 0, .string { data := #[] }, .slice none 0 0]) 3 48 Tryz.underlying23 I0.out I1.out I2.out I3.out rfl (by decide) (.slice Ao k co) k vals rfl HO2.out (some ⟨w2.heap.size, 0, none⟩) 1 1 [.int .i8 0, .string s, .slice none 0 0] rfl rfl HCl.out (by simp [Value.oneCell']) (by unfold maxLen; omega) (by omega) (by have := HSz2.out; simp; omega) ?_)
      intro v' w3 hown hgr hat
      have HG3 := Lib.hid (show Grows 3 SymR 25 w w1.heap.size w3 v' (l.take (k + 1)) from by
        rw [HTk.out]
        exact Grows.push (vs := [.int .i8 0, .string s, .slice none 0 0]) HVl.out HRr.out (by rw [HLk.out]; exact hown) ⟨rfl, HSs.out⟩ rfl)
      have HB3 := Lib.hid (HB2.out.grown hgr (by have := HSz2.out; simp; omega) (fun q hq => (HO2.out.lt q hq).1))
      clear hown hgr hat
      go_wp2_with fail
      go_roundw
      case rel => exact ⟨k + 1, by omega, by go_num, HG3.out, HB3.out⟩
      case measure => simp [intOf]; omega
    · obtain rfl : k = l.length := by omega
      have HNL := Lib.hid (show NewLies 3 SymR w1.heap.size wr Ao l from grows_new (n := 3) (t := 25) (w0 := w) (c := co) symR_flat (by have h := HG.out; rw [List.take_length] at h; exact h))
      have HSh := Lib.hid (owns_shape HOw.out)
      have HZr := Lib.hid ((HBr.out.block _ (lt_of_block HZ.out)).trans HZ.out)
      go_wp2_with fail
      refine (HC.out _ _ _ _).mono ?_
      rintro e w3 ⟨rfl, hb3⟩
      have Z3 := Lib.hid ((hb3.block _ (lt_of_block HZr.out)).trans HZr.out)
      have B3 := Lib.hid (HBW.out.trans (hb3.mono HBW.out.size))
      have N3 := Lib.hid (HNL.out.keep symR_flat (Keeps.of_below hb3 (fun _ => False)) (fun _ h => h.elim))
      clear hb3
      obtain ⟨z0, z1, z2, zf⟩ := three_cells Z3.out
      go_wp2_with fail
      have KZ := set3_keeps (S := fun j => j < w1.heap.size) (Keeps.refl _ w3) (.inl (lt_of_block HZ.out)) (.int .i8 3) (.string { data := #[] }) (.slice Ao l.length co)
      exact sexp_ret (w := set3 w3 w.heap.size (.int .i8 3) (.string { data := #[] }) (.slice Ao l.length co)) Tryz.results71 (three_set Z3.out _ _ _) rfl rfl
        ⟨Ao, co, ⟨rfl, HSh.out⟩, (N3.out.keep symR_flat KZ (fun j hj => hj)).mono HB.out.size, (set3_keeps (S := fun _ => False) (Keeps.of_below B3.out _) (.inr (Nat.le_refl _)) _ _ _).none_below⟩
end Go.Proofs.YtbchcipjpcdhfaaGreatDoor.Cm
/- The document's writing of a command. -/
namespace Go.Proofs.YtbchcipjpcdhfaaGreatDoor.Cm
open Go.RowKit Go.Proofs.YtbchcipjpcdhfaaGreatDoor.Dt

def RWritePost (lo : Nat) (w : World) (c : Cmd) (e : Ending) (w' : World) : Prop :=
  ∃ A' c', (e = .returned (.slice A' (writeL c).length c') ∧ (writeL c).length ≤ c' ∧ c' ≤ maxLen ∧ (writeL c).length * 48 ≤ 140737488351232) ∧ (∀ W', Stays lo w.heap.size w' W' → Lies 3 SexpR W' A' (writeL c)) ∧ Below w.heap.size w w'
theorem pair_get' {w : World} {A : Option Addr} {l : List (ByteArray × ByteArray)} (h : Lies 2 PairR w A l) {k : Nat} (hk : k < l.length) : ∃ b o, A = some ⟨b, o, none⟩ ∧ b < w.heap.size ∧ w.cell? ⟨b, o + k * 2, none⟩ = some (.string (l.getD k (noS, noS)).1) ∧ w.cell? ⟨b, o + k * 2 + 1, none⟩ = some (.string (l.getD k (noS, noS)).2) := by
  obtain ⟨b, o, vs, hA, hb, _, hc, hr⟩ := h.at' (List.getElem?_eq_getElem hk)
  obtain ⟨b', o', hA', p0, p1⟩ := pair_get h hk
  rw [hA] at hA'
  simp only [Option.some.injEq, Addr.mk.injEq, and_true] at hA'
  obtain ⟨rfl, rfl⟩ := hA'
  exact ⟨b, o, hA, hb, p0, p1⟩
theorem rwrite_fin {lo : Nat} {w W : World} {c : Cmd} {c' : Nat} {A : Option Addr} {xs : List Sexp} (hx : writeL c = xs) (hb : Below w.heap.size w W)
    (hl : ∀ W', Stays lo w.heap.size W W' → Lies 3 SexpR W' A xs) (h1 : xs.length ≤ c') (h2 : c' ≤ maxLen) (h3 : xs.length * 48 ≤ 140737488351232) :
    RWritePost lo w c (.returned (.slice A xs.length c')) W := by
  subst hx
  exact ⟨A, c', ⟨rfl, h1, h2, h3⟩, hl, hb⟩
set_option maxRecDepth 100000 in
set_option maxHeartbeats 12800000 in
theorem rwrite_any {W0 w : World} {A1 A2 A3 A4 : Option Addr} {c1 c2 c3 c4 : Nat} {c : Cmd} (h : CmdAt W0 A1 c1 A2 c2 A3 c3 A4 c4 c) (hb0 : Below W0.heap.size W0 w) (hs : CmdSmall c) :
    Calls Tryz.prog 40 #[agC A1 c1 A2 c2 A3 c3 A4 c4 c] w (RWritePost W0.heap.size w c) := by
  unfold agC
  have H0 := Lib.hid h
  have HB0 := Lib.hid hb0
  have HB0s := Lib.hid hb0.size
  have H := Lib.hid (h.on hb0)
  have HSm := Lib.hid hs
  clear h hb0 hs
  go_enter Tryz.func40, Tryz.ntmps40
  go_upto_region 1 with fail
  have BW := Lib.hid ((Below.refl w.heap.size w).alloc (Nat.le_refl _) (.cells #[.int .i8 c.kind, .string c.name, .int .i64 c.n, .slice A1 c.l.length c1, .slice A2 c.args.length c2, .slice A3 c.params.length c3, .string c.res, .slice A4 c.terms.length c4] 32))
  have NB := Lib.hid (blk_new w (.cells #[.int .i8 c.kind, .string c.name, .int .i64 c.n, .slice A1 c.l.length c1, .slice A2 c.args.length c2, .slice A3 c.params.length c3, .string c.res, .slice A4 c.terms.length c4] 32))
  have HLn := Lib.hid (show w.heap.size < (w.alloc (.cells #[.int .i8 c.kind, .string c.name, .int .i64 c.n, .slice A1 c.l.length c1, .slice A2 c.args.length c2, .slice A3 c.params.length c3, .string c.res, .slice A4 c.terms.length c4] 32)).heap.size by simp)
  generalize w.alloc (.cells #[.int .i8 c.kind, .string c.name, .int .i64 c.n, .slice A1 c.l.length c1, .slice A2 c.args.length c2, .slice A3 c.params.length c3, .string c.res, .slice A4 c.terms.length c4] 32) = wk at *
  obtain ⟨n0, n1, n2, n3, n4, n5, n6, n7, nf⟩ := eight_cells NB.out
  have HName := Lib.hid H.out.name
  have HRes := Lib.hid H.out.res
  have HI := Lib.hid H.out.n
  by_cases e0 : c.kind = 0
  · have hk := Lib.hid e0
    have q0 : (c.kind == 0) = true := by simp [e0]
    clear e0
    have HSx := Lib.hid (fun W (h : Below wk.heap.size wk W) => show W.cell? ⟨w.heap.size, 1, none⟩ = some (.string c.name) from (h.cell (p := ⟨w.heap.size, 1, none⟩) HLn.out).trans n1)
    have B0 := Lib.hid (Below.refl wk.heap.size wk).drew
    go_wp2_with fail
    refine wp_region_held_drew (S := fun W => W.cell? ⟨w.heap.size, 1, none⟩ = some (.string c.name)) (by kernel_rfl) (HSx.out _ B0.out) (fun hHeld => ?_)
    refine wpAnyH_take (i := 1) (oi := Oper.mk _ _ _ _ _ _) (v := ?_) rfl (by kernel_rfl) (by kernel_rfl) (by kernel_rfl) (fun _ _ _ h => h) (Or.inl ⟨by rfl, ?_⟩) (by assumption) ?_
    rotate_left
    · (intro w hSw; (try dsimp only at hSw); go_simp; try with_reducible rfl)
    try simp only [Act.put, List.setIfInBounds_toArray, List.set_cons_zero, List.set_cons_succ]
    refine wpAnyH_take (i := 2) (oi := Oper.mk _ _ _ _ _ _) (v := ?_) rfl (by kernel_rfl) (by kernel_rfl) (by kernel_rfl) (fun _ _ _ h => h) (Or.inl ⟨by rfl, ?_⟩) (by assumption) ?_
    rotate_left
    · (intro w hSw; (try dsimp only at hSw); go_simp; try with_reducible rfl)
    try simp only [Act.put, List.setIfInBounds_toArray, List.set_cons_zero, List.set_cons_succ]
    refine wpAnyH_ready (rs := [0]) (by kernel_rfl) (by simp) ?_
    refine AllReadyH.cons (o := Oper.mk _ _ _ _ _ _) rfl (fun K hK => ?_) AllReadyH.nil
    go_simp
    go_wp2_with (go_at_call 69; refine (rsym_any { data := #[115, 101, 116, 45, 108, 111, 103, 105, 99] } _).mono ?_; rintro e W1 ⟨rfl, hb⟩; have B1 := Lib.hid (B0.out.trans (hb.mono B0.out.size)); clear hb)
    refine hK.out _ _ (HSx.out _ B1.out) (fun hHeld => ?_)
    clear hK K
    try simp only [Act.put, List.setIfInBounds_toArray, List.set_cons_zero, List.set_cons_succ]
    refine wpAnyH_ready (rs := [3]) (by kernel_rfl) (by simp) ?_
    refine AllReadyH.cons (o := Oper.mk _ _ _ _ _ _) rfl (fun K hK => ?_) AllReadyH.nil
    go_simp
    go_wp2_with (go_at_call 69; refine (rsym_any c.name _).mono ?_; rintro e W2 ⟨rfl, hb⟩; have B2 := Lib.hid (B1.out.trans (hb.mono B1.out.size)); clear hb)
    refine hK.out _ _ (HSx.out _ B2.out) (fun hHeld => ?_)
    clear hK K
    try simp only [Act.put, List.setIfInBounds_toArray, List.set_cons_zero, List.set_cons_succ]
    have L3 := Lib.hid (blk_new W2 (.cells #[.int .i8 0, .string { data := #[115, 101, 116, 45, 108, 111, 103, 105, 99] }, .slice none 0 0, .int .i8 0, .string c.name, .slice none 0 0] 25))
    have B3 := Lib.hid (B2.out.alloc B2.out.size (.cells #[.int .i8 0, .string { data := #[115, 101, 116, 45, 108, 111, 103, 105, 99] }, .slice none 0 0, .int .i8 0, .string c.name, .slice none 0 0] 25))
    refine wpAnyH_ready (rs := [4]) (by kernel_rfl) (by simp) ?_
    refine AllReadyH.cons (o := Oper.mk _ _ _ _ _ _) rfl (fun K hK => ?_) AllReadyH.nil
    go_simp
    refine hK.out _ _ (HSx.out _ B3.out) (fun hHeld => ?_)
    clear hK K
    try simp only [Act.put, List.setIfInBounds_toArray, List.set_cons_zero, List.set_cons_succ]
    refine wpAnyH_ready (rs := [5]) (by kernel_rfl) (by simp) ?_
    refine AllReadyH.cons (o := Oper.mk _ _ _ _ _ _) rfl (fun K hK => ?_) AllReadyH.nil
    go_simp
    refine hK.out _ _ ((by assumption)) (fun hHeld => ?_)
    clear hK K
    try simp only [Act.put, List.setIfInBounds_toArray, List.set_cons_zero, List.set_cons_succ]
    refine wpAnyH_done (by kernel_rfl) ?_ _
    clear hHeld
    go_wp2_with fail
    go_ret
    exact rwrite_fin (c := c) (xs := [symX sLogic, symX c.name]) (by unfold writeL; rw [hk.out]; rfl) (BW.out.trans (B3.out.mono BW.out.size)) (fun W' hW => lit_keep (ys := [(symX sLogic, none, 0), (symX c.name, none, 0)]) L3.out hW (by have := B2.out.size; have := HLn.out; omega) rfl (bits_two (sym_r W' sLogic (by decide)) (sym_r W' c.name HName.out))) (Nat.le_refl _) (by decide) (by simp)
  have q0 : (c.kind == 0) = false := beq_eq_false_iff_ne.2 e0
  by_cases e1 : c.kind = 1
  · have hk := Lib.hid e1
    have q1 : (c.kind == 1) = true := by simp [e1]
    clear e0 e1
    have KB := Lib.hid (blk_new wk (.cells #[.int .i8 2, .string c.name, .slice none 0 0] 25))
    have BW2 := Lib.hid (BW.out.alloc BW.out.size (.cells #[.int .i8 2, .string c.name, .slice none 0 0] 25))
    have NB2 := Lib.hid ((Below.heap_alloc wk (.cells #[.int .i8 2, .string c.name, .slice none 0 0] 25) _ (lt_of_block NB.out)).trans NB.out)
    have HLk := Lib.hid (show wk.heap.size < (wk.alloc (.cells #[.int .i8 2, .string c.name, .slice none 0 0] 25)).heap.size by simp)
    go_upto_region 6 with fail
    generalize wk.alloc (.cells #[.int .i8 2, .string c.name, .slice none 0 0] 25) = wo at *
    generalize hkb : wk.heap.size = kb at *
    have HKb := Lib.hid HLn.out
    clear hkb n0 n1 n2 n3 n4 n5 n6 n7 nf BW NB
    have BW := Lib.hid BW2.out
    have NB := Lib.hid NB2.out
    have HLn := Lib.hid (lt_of_block NB.out)
    clear BW2 NB2
    obtain ⟨n0, n1, n2, n3, n4, n5, n6, n7, nf⟩ := eight_cells NB.out
    obtain ⟨k0, k1, k2, kf⟩ := three_cells KB.out
    by_cases hB : c.name = sBudget
    · have hB' : (c.name.toList == [98, 117, 100, 103, 101, 116]) = true := tl_true hB
      have hbud := Lib.hid hB
      clear hB
      have HSx := Lib.hid (fun W (h : Below wo.heap.size wo W) => show W.cell? ⟨w.heap.size, 2, none⟩ = some (.int .i64 c.n) ∧ W.cell? ⟨kb, 0, none⟩ = some (.int .i8 2) ∧ W.cell? ⟨kb, 1, none⟩ = some (.string c.name) ∧ W.cell? ⟨kb, 2, none⟩ = some (.slice none 0 0) from ⟨(h.cell (p := ⟨w.heap.size, 2, none⟩) HLn.out).trans n2, (h.cell (p := ⟨kb, 0, none⟩) HLk.out).trans k0, (h.cell (p := ⟨kb, 1, none⟩) HLk.out).trans k1, (h.cell (p := ⟨kb, 2, none⟩) HLk.out).trans k2⟩)
      have B0 := Lib.hid (Below.refl wo.heap.size wo).drew
      go_wp2_with fail
      refine wp_region_held_drew (S := fun W => W.cell? ⟨w.heap.size, 2, none⟩ = some (.int .i64 c.n) ∧ W.cell? ⟨kb, 0, none⟩ = some (.int .i8 2) ∧ W.cell? ⟨kb, 1, none⟩ = some (.string c.name) ∧ W.cell? ⟨kb, 2, none⟩ = some (.slice none 0 0)) (by kernel_rfl) (HSx.out _ B0.out) (fun hHeld => ?_)
      refine wpAnyH_take (i := 1) (oi := Oper.mk _ _ _ _ _ _) (v := ?_) rfl (by kernel_rfl) (by kernel_rfl) (by kernel_rfl) (fun _ _ _ h => h) (Or.inl ⟨by rfl, ?_⟩) (by assumption) ?_
      rotate_left
      · (intro w hSw; (try dsimp only at hSw); go_simp; try with_reducible rfl)
      try simp only [Act.put, List.setIfInBounds_toArray, List.set_cons_zero, List.set_cons_succ]
      refine wpAnyH_take (i := 2) (oi := Oper.mk _ _ _ _ _ _) (v := ?_) rfl (by kernel_rfl) (by kernel_rfl) (by kernel_rfl) (fun _ _ _ h => h) (Or.inl ⟨by rfl, ?_⟩) (by assumption) ?_
      rotate_left
      · (intro w hSw; (try dsimp only at hSw); go_simp; try with_reducible rfl)
      try simp only [Act.put, List.setIfInBounds_toArray, List.set_cons_zero, List.set_cons_succ]
      refine wpAnyH_take (i := 3) (oi := Oper.mk _ _ _ _ _ _) (v := ?_) rfl (by kernel_rfl) (by kernel_rfl) (by kernel_rfl) (fun _ _ _ h => h) (Or.inl ⟨by rfl, ?_⟩) (by assumption) ?_
      rotate_left
      · (intro w hSw; (try dsimp only at hSw); go_simp; try with_reducible rfl)
      try simp only [Act.put, List.setIfInBounds_toArray, List.set_cons_zero, List.set_cons_succ]
      refine wpAnyH_ready (rs := [0]) (by kernel_rfl) (by simp) ?_
      refine AllReadyH.cons (o := Oper.mk _ _ _ _ _ _) rfl (fun K hK => ?_) AllReadyH.nil
      go_simp
      go_wp2_with (go_at_call 69; refine (rsym_any { data := #[115, 101, 116, 45, 111, 112, 116, 105, 111, 110] } _).mono ?_; rintro e W1 ⟨rfl, hb⟩; have B1 := Lib.hid (B0.out.trans (hb.mono B0.out.size)); clear hb)
      refine hK.out _ _ (HSx.out _ B1.out) (fun hHeld => ?_)
      clear hK K
      try simp only [Act.put, List.setIfInBounds_toArray, List.set_cons_zero, List.set_cons_succ]
      refine wpAnyH_ready (rs := [4]) (by kernel_rfl) (by simp) ?_
      refine AllReadyH.cons (o := Oper.mk _ _ _ _ _ _) rfl (fun K hK => ?_) AllReadyH.nil
      go_simp
      go_wp2_with (go_at_call 70; refine (rnum_any c.n HI.out _).mono ?_; rintro e W2 ⟨rfl, hb⟩; have B2 := Lib.hid (B1.out.trans (hb.mono B1.out.size)); clear hb)
      refine hK.out _ _ (HSx.out _ B2.out) (fun hHeld => ?_)
      clear hK K
      try simp only [Act.put, List.setIfInBounds_toArray, List.set_cons_zero, List.set_cons_succ]
      have L3 := Lib.hid (blk_new W2 (.cells #[.int .i8 0, .string { data := #[115, 101, 116, 45, 111, 112, 116, 105, 111, 110] }, .slice none 0 0, .int .i8 2, .string c.name, .slice none 0 0, .int .i8 1, .string ⟨(textL c.n).toArray⟩, .slice none 0 0] 25))
      have B3 := Lib.hid (B2.out.alloc B2.out.size (.cells #[.int .i8 0, .string { data := #[115, 101, 116, 45, 111, 112, 116, 105, 111, 110] }, .slice none 0 0, .int .i8 2, .string c.name, .slice none 0 0, .int .i8 1, .string ⟨(textL c.n).toArray⟩, .slice none 0 0] 25))
      refine wpAnyH_ready (rs := [5]) (by kernel_rfl) (by simp) ?_
      refine AllReadyH.cons (o := Oper.mk _ _ _ _ _ _) rfl (fun K hK => ?_) AllReadyH.nil
      go_simp
      refine hK.out _ _ (HSx.out _ B3.out) (fun hHeld => ?_)
      clear hK K
      try simp only [Act.put, List.setIfInBounds_toArray, List.set_cons_zero, List.set_cons_succ]
      refine wpAnyH_ready (rs := [6]) (by kernel_rfl) (by simp) ?_
      refine AllReadyH.cons (o := Oper.mk _ _ _ _ _ _) rfl (fun K hK => ?_) AllReadyH.nil
      go_simp
      refine hK.out _ _ ((by assumption)) (fun hHeld => ?_)
      clear hK K
      try simp only [Act.put, List.setIfInBounds_toArray, List.set_cons_zero, List.set_cons_succ]
      refine wpAnyH_done (by kernel_rfl) ?_ _
      clear hHeld
      go_wp2_with fail
      go_ret
      exact rwrite_fin (c := c) (xs := [symX sOption, .mk 2 c.name [], numX c.n]) (by unfold writeL; rw [hk.out, hbud.out]; rfl) (BW.out.trans (B3.out.mono BW.out.size)) (fun W' hW => lit_keep (ys := [(symX sOption, none, 0), (.mk 2 c.name [], none, 0), (numX c.n, none, 0)]) L3.out hW (by have := B2.out.size; have := HLn.out; omega) rfl (bits_three (sym_r W' sOption (by decide)) (key_r W' c.name HName.out) (num_r W' c.n HI.out))) (Nat.le_refl _) (by decide) (by simp)
    · have hB' : (c.name.toList == [98, 117, 100, 103, 101, 116]) = false := tl_false hB
      have hbud := Lib.hid hB
      clear hB
      obtain ⟨i0, hi0, z0, z1, z2⟩ := info_parts info_sexp
      have I0 := Lib.hid hi0
      have I1 := Lib.hid z0
      have I2 := Lib.hid z1
      have I3 := Lib.hid z2
      clear hi0 z0 z1 z2
      go_wp2_with fail
      go_loopw [4, 5] (fun v' i' wr => ∃ k : Nat, k ≤ c.l.length ∧ i' = .int .i64 k ∧ Grows 3 NumR 25 w wo.heap.size wr v' (c.l.take k) ∧ Below wo.heap.size wo wr) (fun _ i' _ => c.l.length - (intOf i').toNat)
      case atStart => exact ⟨0, Nat.zero_le _, rfl, Grows.nil _, Below.refl _ _⟩
      case round =>
        obtain ⟨k, hk', rfl, hg, hb⟩ := hrel
        have HG := Lib.hid hg
        have HBr := Lib.hid hb
        have HBW := Lib.hid (BW.out.trans (hb.mono BW.out.size))
        have NBr := Lib.hid ((hb.block _ (lt_of_block NB.out)).trans NB.out)
        have KBr := Lib.hid ((hb.block _ (lt_of_block KB.out)).trans KB.out)
        obtain ⟨vals, ho, hrr⟩ := hg.row
        have hlk : (c.l.take k).length = k := by simp; omega
        have hvl : vals.length = (c.l.take k).length * 3 := ho.1
        rw [hlk] at ho
        obtain ⟨Ao, co, rfl⟩ := shape_of_owns ho
        have HOw := Lib.hid ho
        have HRr := Lib.hid hrr
        have HLk' := Lib.hid hlk
        have HVl := Lib.hid hvl
        have HSz := Lib.hid hb.size
        clear hg ho hrr hlk hvl hb n0 n1 n2 n3 n4 n5 n6 n7 nf k0 k1 k2 kf
        obtain ⟨n0, n1, n2, n3, n4, n5, n6, n7, nf⟩ := eight_cells NBr.out
        obtain ⟨k0, k1, k2, kf⟩ := three_cells KBr.out
        by_cases hlt : k < c.l.length
        · have hlt2 : (k : Int) < (c.l.length : Int) := by omega
          have hk48 : k < 1000000 := by have := HSm.out.l; omega
          obtain ⟨b, o, hA1, p0, hi64⟩ := int_get (H.out.l.on (IntR.lasts _) HBW.out) hlt
          subst hA1
          have HZi := Lib.hid hi64
          have HTk' := Lib.hid (take_snoc (d := (0 : Int)) hlt)
          generalize c.l.getD k 0 = z at *
          clear hi64
          have HNu := Lib.hid (fun W => rnum_any z HZi.out W)
          go_wp2_with fail
          refine (HNu.out _).mono ?_
          rintro e w2 ⟨rfl, hb2⟩
          have HO2 := Lib.hid (show World.ownsRow (w2.alloc (.cells #[.int .i8 1, .string ⟨(textL z).toArray⟩, .slice none 0 0] 25)) wo.heap.size 25 3 (.slice Ao k co) k vals from (owns_keep HOw.out (Keeps.of_below hb2 (fun _ => False)) (fun _ h => h.elim)).alloc _)
          have HCl := Lib.hid (Cells.new w2 [.int .i8 1, .string ⟨(textL z).toArray⟩, .slice none 0 0] 25 (0, 0))
          have HB2 := Lib.hid ((HBr.out.trans (hb2.mono HSz.out)).alloc (Nat.le_trans HSz.out hb2.size) (.cells #[.int .i8 1, .string ⟨(textL z).toArray⟩, .slice none 0 0] 25))
          have HSz2 := Lib.hid (Nat.le_trans HSz.out hb2.size)
          clear p0 hb2 n0 n1 n2 n3 n4 n5 n6 n7 nf k0 k1 k2 kf
          go_wp2_with (at_builtin; refine wpList_append_at rfl (.tmp 38) (.tmp 45) _ rfl wo.heap.size 25 i0 (.agg #[.int .i8 0, .string { data := #[] }, .slice none 0 0]) 3 48 Tryz.underlying23 I0.out I1.out I2.out I3.out rfl (by decide) (.slice Ao k co) k vals rfl HO2.out (some ⟨w2.heap.size, 0, none⟩) 1 1 [.int .i8 1, .string ⟨(textL z).toArray⟩, .slice none 0 0] rfl rfl HCl.out (by simp [Value.oneCell']) (by unfold maxLen; omega) (by omega) (by have := HSz2.out; simp; omega) ?_)
          intro v' w3 hown hgr hat
          have HG3 := Lib.hid (show Grows 3 NumR 25 w wo.heap.size w3 v' (c.l.take (k + 1)) from by
            rw [HTk'.out]
            exact Grows.push (vs := [.int .i8 1, .string ⟨(textL z).toArray⟩, .slice none 0 0]) HVl.out HRr.out (by rw [HLk'.out]; exact hown) ⟨rfl, HZi.out⟩ rfl)
          have HB3 := Lib.hid (HB2.out.grown hgr (by have := HSz2.out; simp; omega) (fun q hq => (HO2.out.lt q hq).1))
          clear hown hgr hat
          go_wp2_with fail
          go_roundw
          case rel => exact ⟨k + 1, by omega, by go_num, HG3.out, HB3.out⟩
          case measure => simp [intOf]; omega
        · obtain hkl : k = c.l.length := by omega
          subst hkl
          have HNL := Lib.hid (show NewLies 3 NumR wo.heap.size wr Ao c.l from grows_new (n := 3) (t := 25) (w0 := w) (c := co) numR_flat (by have h := HG.out; rw [List.take_length] at h; exact h))
          have HSh := Lib.hid (owns_shape HOw.out)
          have HLo := Lib.hid HLn.out
          have HLn := Lib.hid (lt_of_block NBr.out)
          have HLk := Lib.hid (lt_of_block KBr.out)
          have BW := Lib.hid HBW.out
          have HSx := Lib.hid (fun W (h : Below wr.heap.size wr W) => show W.cell? ⟨kb, 0, none⟩ = some (.int .i8 2) ∧ W.cell? ⟨kb, 1, none⟩ = some (.string c.name) ∧ W.cell? ⟨kb, 2, none⟩ = some (.slice none 0 0) from ⟨(h.cell (p := ⟨kb, 0, none⟩) HLk.out).trans k0, (h.cell (p := ⟨kb, 1, none⟩) HLk.out).trans k1, (h.cell (p := ⟨kb, 2, none⟩) HLk.out).trans k2⟩)
          have B0 := Lib.hid (Below.refl wr.heap.size wr).drew
          go_wp2_with fail
          refine wp_region_held_drew (S := fun W => W.cell? ⟨kb, 0, none⟩ = some (.int .i8 2) ∧ W.cell? ⟨kb, 1, none⟩ = some (.string c.name) ∧ W.cell? ⟨kb, 2, none⟩ = some (.slice none 0 0)) (by kernel_rfl) (HSx.out _ B0.out) (fun hHeld => ?_)
          refine wpAnyH_take (i := 1) (oi := Oper.mk _ _ _ _ _ _) (v := ?_) rfl (by kernel_rfl) (by kernel_rfl) (by kernel_rfl) (fun _ _ _ h => h) (Or.inl ⟨by rfl, ?_⟩) (by assumption) ?_
          rotate_left
          · (intro w hSw; (try dsimp only at hSw); go_simp; try with_reducible rfl)
          try simp only [Act.put, List.setIfInBounds_toArray, List.set_cons_zero, List.set_cons_succ]
          refine wpAnyH_take (i := 2) (oi := Oper.mk _ _ _ _ _ _) (v := ?_) rfl (by kernel_rfl) (by kernel_rfl) (by kernel_rfl) (fun _ _ _ h => h) (Or.inl ⟨by rfl, ?_⟩) (by assumption) ?_
          rotate_left
          · (intro w hSw; (try dsimp only at hSw); go_simp; try with_reducible rfl)
          try simp only [Act.put, List.setIfInBounds_toArray, List.set_cons_zero, List.set_cons_succ]
          refine wpAnyH_ready (rs := [0]) (by kernel_rfl) (by simp) ?_
          refine AllReadyH.cons (o := Oper.mk _ _ _ _ _ _) rfl (fun K hK => ?_) AllReadyH.nil
          go_simp
          go_wp2_with (go_at_call 69; refine (rsym_any { data := #[115, 101, 116, 45, 111, 112, 116, 105, 111, 110] } _).mono ?_; rintro e W1 ⟨rfl, hb⟩; have B1 := Lib.hid (B0.out.trans (hb.mono B0.out.size)); clear hb)
          refine hK.out _ _ (HSx.out _ B1.out) (fun hHeld => ?_)
          clear hK K
          try simp only [Act.put, List.setIfInBounds_toArray, List.set_cons_zero, List.set_cons_succ]
          refine wpAnyH_ready (rs := [3]) (by kernel_rfl) (by simp) ?_
          refine AllReadyH.cons (o := Oper.mk _ _ _ _ _ _) rfl (fun K hK => ?_) AllReadyH.nil
          go_simp
          go_wp2_with (go_at_call 39; refine (rlist_any Ao c.l.length co _).mono ?_; rintro e W2 ⟨rfl, hb⟩; have B2 := Lib.hid (B1.out.trans (hb.mono B1.out.size)); clear hb)
          refine hK.out _ _ (HSx.out _ B2.out) (fun hHeld => ?_)
          clear hK K
          try simp only [Act.put, List.setIfInBounds_toArray, List.set_cons_zero, List.set_cons_succ]
          have L3 := Lib.hid (blk_new W2 (.cells #[.int .i8 0, .string { data := #[115, 101, 116, 45, 111, 112, 116, 105, 111, 110] }, .slice none 0 0, .int .i8 2, .string c.name, .slice none 0 0, .int .i8 3, .string { data := #[] }, .slice Ao c.l.length co] 25))
          have B3 := Lib.hid (B2.out.alloc B2.out.size (.cells #[.int .i8 0, .string { data := #[115, 101, 116, 45, 111, 112, 116, 105, 111, 110] }, .slice none 0 0, .int .i8 2, .string c.name, .slice none 0 0, .int .i8 3, .string { data := #[] }, .slice Ao c.l.length co] 25))
          refine wpAnyH_ready (rs := [4]) (by kernel_rfl) (by simp) ?_
          refine AllReadyH.cons (o := Oper.mk _ _ _ _ _ _) rfl (fun K hK => ?_) AllReadyH.nil
          go_simp
          refine hK.out _ _ (HSx.out _ B3.out) (fun hHeld => ?_)
          clear hK K
          try simp only [Act.put, List.setIfInBounds_toArray, List.set_cons_zero, List.set_cons_succ]
          refine wpAnyH_ready (rs := [5]) (by kernel_rfl) (by simp) ?_
          refine AllReadyH.cons (o := Oper.mk _ _ _ _ _ _) rfl (fun K hK => ?_) AllReadyH.nil
          go_simp
          refine hK.out _ _ ((by assumption)) (fun hHeld => ?_)
          clear hK K
          try simp only [Act.put, List.setIfInBounds_toArray, List.set_cons_zero, List.set_cons_succ]
          refine wpAnyH_done (by kernel_rfl) ?_ _
          clear hHeld
          go_wp2_with fail
          go_ret
          exact rwrite_fin (c := c) (xs := [symX sOption, .mk 2 c.name [], listX (c.l.map numX)]) (by unfold writeL; rw [hk.out]; rw [if_neg (by decide), if_pos rfl, if_neg hbud.out]) (BW.out.trans (B3.out.mono BW.out.size)) (fun W' hW => lit_keep (ys := [(symX sOption, none, 0), (.mk 2 c.name [], none, 0), (listX (c.l.map numX), Ao, co)]) L3.out hW (by have := B2.out.size; have := HLn.out; omega) (by simp only [cells3]; rw [show (listX (c.l.map numX)).l.length = c.l.length from List.length_map _]; rfl) (bits_three (sym_r W' sOption (by decide)) (key_r W' c.name HName.out) (list_r (nums_lies ((HNL.out.keep numR_flat (Keeps.of_below B3.out (fun _ => False)) (fun _ h => h.elim)).keep numR_flat hW (fun j hj => by have := HLo.out; omega)).lies) (by rw [List.length_map]; exact HSh.out.1) HSh.out.2 (by rw [List.length_map]; have := HSm.out.l; omega)))) (Nat.le_refl _) (by decide) (by simp)
  have q1 : (c.kind == 1) = false := beq_eq_false_iff_ne.2 e1
  by_cases e2 : c.kind = 2
  · have hk := Lib.hid e2
    have q2 : (c.kind == 2) = true := by simp [e2]
    clear e0 e1 e2
    have HSx := Lib.hid (fun W (h : Below wk.heap.size wk W) => show W.cell? ⟨w.heap.size, 1, none⟩ = some (.string c.name) from (h.cell (p := ⟨w.heap.size, 1, none⟩) HLn.out).trans n1)
    have B0 := Lib.hid (Below.refl wk.heap.size wk).drew
    go_wp2_with fail
    refine wp_region_held_drew (S := fun W => W.cell? ⟨w.heap.size, 1, none⟩ = some (.string c.name)) (by kernel_rfl) (HSx.out _ B0.out) (fun hHeld => ?_)
    refine wpAnyH_take (i := 1) (oi := Oper.mk _ _ _ _ _ _) (v := ?_) rfl (by kernel_rfl) (by kernel_rfl) (by kernel_rfl) (fun _ _ _ h => h) (Or.inl ⟨by rfl, ?_⟩) (by assumption) ?_
    rotate_left
    · (intro w hSw; (try dsimp only at hSw); go_simp; try with_reducible rfl)
    try simp only [Act.put, List.setIfInBounds_toArray, List.set_cons_zero, List.set_cons_succ]
    refine wpAnyH_take (i := 2) (oi := Oper.mk _ _ _ _ _ _) (v := ?_) rfl (by kernel_rfl) (by kernel_rfl) (by kernel_rfl) (fun _ _ _ h => h) (Or.inl ⟨by rfl, ?_⟩) (by assumption) ?_
    rotate_left
    · (intro w hSw; (try dsimp only at hSw); go_simp; try with_reducible rfl)
    try simp only [Act.put, List.setIfInBounds_toArray, List.set_cons_zero, List.set_cons_succ]
    refine wpAnyH_ready (rs := [0]) (by kernel_rfl) (by simp) ?_
    refine AllReadyH.cons (o := Oper.mk _ _ _ _ _ _) rfl (fun K hK => ?_) AllReadyH.nil
    go_simp
    go_wp2_with (go_at_call 69; refine (rsym_any { data := #[100, 101, 99, 108, 97, 114, 101, 45, 115, 111, 114, 116] } _).mono ?_; rintro e W1 ⟨rfl, hb⟩; have B1 := Lib.hid (B0.out.trans (hb.mono B0.out.size)); clear hb)
    refine hK.out _ _ (HSx.out _ B1.out) (fun hHeld => ?_)
    clear hK K
    try simp only [Act.put, List.setIfInBounds_toArray, List.set_cons_zero, List.set_cons_succ]
    refine wpAnyH_ready (rs := [3]) (by kernel_rfl) (by simp) ?_
    refine AllReadyH.cons (o := Oper.mk _ _ _ _ _ _) rfl (fun K hK => ?_) AllReadyH.nil
    go_simp
    go_wp2_with (go_at_call 69; refine (rsym_any c.name _).mono ?_; rintro e W2 ⟨rfl, hb⟩; have B2 := Lib.hid (B1.out.trans (hb.mono B1.out.size)); clear hb)
    refine hK.out _ _ (HSx.out _ B2.out) (fun hHeld => ?_)
    clear hK K
    try simp only [Act.put, List.setIfInBounds_toArray, List.set_cons_zero, List.set_cons_succ]
    refine wpAnyH_ready (rs := [4]) (by kernel_rfl) (by simp) ?_
    refine AllReadyH.cons (o := Oper.mk _ _ _ _ _ _) rfl (fun K hK => ?_) AllReadyH.nil
    go_simp
    go_wp2_with (go_at_call 70; refine (rnum_any 0 (show I64 0 from ⟨by decide, by decide⟩) _).mono ?_; rintro e W3 ⟨rfl, hb⟩; have B3 := Lib.hid (B2.out.trans (hb.mono B2.out.size)); clear hb)
    refine hK.out _ _ (HSx.out _ B3.out) (fun hHeld => ?_)
    clear hK K
    try simp only [Act.put, List.setIfInBounds_toArray, List.set_cons_zero, List.set_cons_succ]
    have L4 := Lib.hid (blk_new W3 (.cells #[.int .i8 0, .string { data := #[100, 101, 99, 108, 97, 114, 101, 45, 115, 111, 114, 116] }, .slice none 0 0, .int .i8 0, .string c.name, .slice none 0 0, .int .i8 1, .string ⟨(textL 0).toArray⟩, .slice none 0 0] 25))
    have B4 := Lib.hid (B3.out.alloc B3.out.size (.cells #[.int .i8 0, .string { data := #[100, 101, 99, 108, 97, 114, 101, 45, 115, 111, 114, 116] }, .slice none 0 0, .int .i8 0, .string c.name, .slice none 0 0, .int .i8 1, .string ⟨(textL 0).toArray⟩, .slice none 0 0] 25))
    refine wpAnyH_ready (rs := [5]) (by kernel_rfl) (by simp) ?_
    refine AllReadyH.cons (o := Oper.mk _ _ _ _ _ _) rfl (fun K hK => ?_) AllReadyH.nil
    go_simp
    refine hK.out _ _ (HSx.out _ B4.out) (fun hHeld => ?_)
    clear hK K
    try simp only [Act.put, List.setIfInBounds_toArray, List.set_cons_zero, List.set_cons_succ]
    refine wpAnyH_ready (rs := [6]) (by kernel_rfl) (by simp) ?_
    refine AllReadyH.cons (o := Oper.mk _ _ _ _ _ _) rfl (fun K hK => ?_) AllReadyH.nil
    go_simp
    refine hK.out _ _ ((by assumption)) (fun hHeld => ?_)
    clear hK K
    try simp only [Act.put, List.setIfInBounds_toArray, List.set_cons_zero, List.set_cons_succ]
    refine wpAnyH_done (by kernel_rfl) ?_ _
    clear hHeld
    go_wp2_with fail
    go_ret
    exact rwrite_fin (c := c) (xs := [symX sSort, symX c.name, numX 0]) (by unfold writeL; rw [hk.out]; rfl) (BW.out.trans (B4.out.mono BW.out.size)) (fun W' hW => lit_keep (ys := [(symX sSort, none, 0), (symX c.name, none, 0), (numX 0, none, 0)]) L4.out hW (by have := B3.out.size; have := HLn.out; omega) rfl (bits_three (sym_r W' sSort (by decide)) (sym_r W' c.name HName.out) (num_r W' 0 (show I64 0 from ⟨by decide, by decide⟩)))) (Nat.le_refl _) (by decide) (by simp)
  have q2 : (c.kind == 2) = false := beq_eq_false_iff_ne.2 e2
  by_cases e3 : c.kind = 3
  · have hk := Lib.hid e3
    have q3 : (c.kind == 3) = true := by simp [e3]
    clear e0 e1 e2 e3
    have HSx := Lib.hid (fun W (h : Below wk.heap.size wk W) => show W.cell? ⟨w.heap.size, 1, none⟩ = some (.string c.name) ∧ W.cell? ⟨w.heap.size, 4, none⟩ = some (.slice A2 c.args.length c2) ∧ W.cell? ⟨w.heap.size, 6, none⟩ = some (.string c.res) from ⟨(h.cell (p := ⟨w.heap.size, 1, none⟩) HLn.out).trans n1, (h.cell (p := ⟨w.heap.size, 4, none⟩) HLn.out).trans n4, (h.cell (p := ⟨w.heap.size, 6, none⟩) HLn.out).trans n6⟩)
    have B0 := Lib.hid (Below.refl wk.heap.size wk).drew
    go_wp2_with fail
    refine wp_region_held_drew (S := fun W => W.cell? ⟨w.heap.size, 1, none⟩ = some (.string c.name) ∧ W.cell? ⟨w.heap.size, 4, none⟩ = some (.slice A2 c.args.length c2) ∧ W.cell? ⟨w.heap.size, 6, none⟩ = some (.string c.res)) (by kernel_rfl) (HSx.out _ B0.out) (fun hHeld => ?_)
    refine wpAnyH_take (i := 1) (oi := Oper.mk _ _ _ _ _ _) (v := ?_) rfl (by kernel_rfl) (by kernel_rfl) (by kernel_rfl) (fun _ _ _ h => h) (Or.inl ⟨by rfl, ?_⟩) (by assumption) ?_
    rotate_left
    · (intro w hSw; (try dsimp only at hSw); go_simp; try with_reducible rfl)
    try simp only [Act.put, List.setIfInBounds_toArray, List.set_cons_zero, List.set_cons_succ]
    refine wpAnyH_take (i := 2) (oi := Oper.mk _ _ _ _ _ _) (v := ?_) rfl (by kernel_rfl) (by kernel_rfl) (by kernel_rfl) (fun _ _ _ h => h) (Or.inl ⟨by rfl, ?_⟩) (by assumption) ?_
    rotate_left
    · (intro w hSw; (try dsimp only at hSw); go_simp; try with_reducible rfl)
    try simp only [Act.put, List.setIfInBounds_toArray, List.set_cons_zero, List.set_cons_succ]
    refine wpAnyH_take (i := 4) (oi := Oper.mk _ _ _ _ _ _) (v := ?_) rfl (by kernel_rfl) (by kernel_rfl) (by kernel_rfl) (fun _ _ _ h => h) (Or.inl ⟨by rfl, ?_⟩) (by assumption) ?_
    rotate_left
    · (intro w hSw; (try dsimp only at hSw); go_simp; try with_reducible rfl)
    try simp only [Act.put, List.setIfInBounds_toArray, List.set_cons_zero, List.set_cons_succ]
    refine wpAnyH_take (i := 5) (oi := Oper.mk _ _ _ _ _ _) (v := ?_) rfl (by kernel_rfl) (by kernel_rfl) (by kernel_rfl) (fun _ _ _ h => h) (Or.inl ⟨by rfl, ?_⟩) (by assumption) ?_
    rotate_left
    · (intro w hSw; (try dsimp only at hSw); go_simp; try with_reducible rfl)
    try simp only [Act.put, List.setIfInBounds_toArray, List.set_cons_zero, List.set_cons_succ]
    refine wpAnyH_take (i := 7) (oi := Oper.mk _ _ _ _ _ _) (v := ?_) rfl (by kernel_rfl) (by kernel_rfl) (by kernel_rfl) (fun _ _ _ h => h) (Or.inl ⟨by rfl, ?_⟩) (by assumption) ?_
    rotate_left
    · (intro w hSw; (try dsimp only at hSw); go_simp; try with_reducible rfl)
    try simp only [Act.put, List.setIfInBounds_toArray, List.set_cons_zero, List.set_cons_succ]
    refine wpAnyH_take (i := 8) (oi := Oper.mk _ _ _ _ _ _) (v := ?_) rfl (by kernel_rfl) (by kernel_rfl) (by kernel_rfl) (fun _ _ _ h => h) (Or.inl ⟨by rfl, ?_⟩) (by assumption) ?_
    rotate_left
    · (intro w hSw; (try dsimp only at hSw); go_simp; try with_reducible rfl)
    try simp only [Act.put, List.setIfInBounds_toArray, List.set_cons_zero, List.set_cons_succ]
    refine wpAnyH_ready (rs := [0]) (by kernel_rfl) (by simp) ?_
    refine AllReadyH.cons (o := Oper.mk _ _ _ _ _ _) rfl (fun K hK => ?_) AllReadyH.nil
    go_simp
    go_wp2_with (go_at_call 69; refine (rsym_any { data := #[100, 101, 99, 108, 97, 114, 101, 45, 102, 117, 110] } _).mono ?_; rintro e W1 ⟨rfl, hb⟩; have B1 := Lib.hid (B0.out.trans (hb.mono B0.out.size)); clear hb)
    refine hK.out _ _ (HSx.out _ B1.out) (fun hHeld => ?_)
    clear hK K
    try simp only [Act.put, List.setIfInBounds_toArray, List.set_cons_zero, List.set_cons_succ]
    refine wpAnyH_ready (rs := [3]) (by kernel_rfl) (by simp) ?_
    refine AllReadyH.cons (o := Oper.mk _ _ _ _ _ _) rfl (fun K hK => ?_) AllReadyH.nil
    go_simp
    go_wp2_with (go_at_call 69; refine (rsym_any c.name _).mono ?_; rintro e W2 ⟨rfl, hb⟩; have B2 := Lib.hid (B1.out.trans (hb.mono B1.out.size)); clear hb)
    refine hK.out _ _ (HSx.out _ B2.out) (fun hHeld => ?_)
    clear hK K
    try simp only [Act.put, List.setIfInBounds_toArray, List.set_cons_zero, List.set_cons_succ]
    refine wpAnyH_ready (rs := [6]) (by kernel_rfl) (by simp) ?_
    refine AllReadyH.cons (o := Oper.mk _ _ _ _ _ _) rfl (fun K hK => ?_) AllReadyH.nil
    go_simp
    go_wp2_with (go_at_call 71; refine (rsymbols_any c.args A2 c2 _ (H.out.args.on StrR.lasts (BW.out.trans (B2.out.mono BW.out.size))) (by have := HSm.out.args; omega)).mono ?_; rintro e W3 ⟨As, cs, ⟨rfl, s1, s2⟩, s3, hb⟩; have B3 := Lib.hid (B2.out.trans (hb.mono B2.out.size)); have SY := Lib.hid (And.intro s1 (And.intro s2 (s3.mono B2.out.size))); clear hb s1 s2 s3)
    refine hK.out _ _ (HSx.out _ B3.out) (fun hHeld => ?_)
    clear hK K
    try simp only [Act.put, List.setIfInBounds_toArray, List.set_cons_zero, List.set_cons_succ]
    refine wpAnyH_ready (rs := [9]) (by kernel_rfl) (by simp) ?_
    refine AllReadyH.cons (o := Oper.mk _ _ _ _ _ _) rfl (fun K hK => ?_) AllReadyH.nil
    go_simp
    go_wp2_with (go_at_call 69; refine (rsym_any c.res _).mono ?_; rintro e W4 ⟨rfl, hb⟩; have B4 := Lib.hid (B3.out.trans (hb.mono B3.out.size)); have SB1 := Lib.hid hb; clear hb)
    refine hK.out _ _ (HSx.out _ B4.out) (fun hHeld => ?_)
    clear hK K
    try simp only [Act.put, List.setIfInBounds_toArray, List.set_cons_zero, List.set_cons_succ]
    have L5 := Lib.hid (blk_new W4 (.cells #[.int .i8 0, .string { data := #[100, 101, 99, 108, 97, 114, 101, 45, 102, 117, 110] }, .slice none 0 0, .int .i8 0, .string c.name, .slice none 0 0, .int .i8 3, .string { data := #[] }, .slice As c.args.length cs, .int .i8 0, .string c.res, .slice none 0 0] 25))
    have B5 := Lib.hid (B4.out.alloc B4.out.size (.cells #[.int .i8 0, .string { data := #[100, 101, 99, 108, 97, 114, 101, 45, 102, 117, 110] }, .slice none 0 0, .int .i8 0, .string c.name, .slice none 0 0, .int .i8 3, .string { data := #[] }, .slice As c.args.length cs, .int .i8 0, .string c.res, .slice none 0 0] 25))
    refine wpAnyH_ready (rs := [10]) (by kernel_rfl) (by simp) ?_
    refine AllReadyH.cons (o := Oper.mk _ _ _ _ _ _) rfl (fun K hK => ?_) AllReadyH.nil
    go_simp
    refine hK.out _ _ (HSx.out _ B5.out) (fun hHeld => ?_)
    clear hK K
    try simp only [Act.put, List.setIfInBounds_toArray, List.set_cons_zero, List.set_cons_succ]
    refine wpAnyH_ready (rs := [11]) (by kernel_rfl) (by simp) ?_
    refine AllReadyH.cons (o := Oper.mk _ _ _ _ _ _) rfl (fun K hK => ?_) AllReadyH.nil
    go_simp
    refine hK.out _ _ ((by assumption)) (fun hHeld => ?_)
    clear hK K
    try simp only [Act.put, List.setIfInBounds_toArray, List.set_cons_zero, List.set_cons_succ]
    refine wpAnyH_done (by kernel_rfl) ?_ _
    clear hHeld
    go_wp2_with fail
    go_ret
    exact rwrite_fin (c := c) (xs := [symX sFun, symX c.name, listX (c.args.map symX), symX c.res]) (by unfold writeL; rw [hk.out]; rfl) (BW.out.trans (B5.out.mono BW.out.size)) (fun W' hW => lit_keep (ys := [(symX sFun, none, 0), (symX c.name, none, 0), (listX (c.args.map symX), As, cs), (symX c.res, none, 0)]) L5.out hW (by have := B4.out.size; have := HLn.out; omega) (by simp only [cells3]; rw [show (listX (c.args.map symX)).l.length = c.args.length from List.length_map _]; rfl) (bits_four (sym_r W' sFun (by decide)) (sym_r W' c.name HName.out) (list_r (syms_lies (((SY.out.2.2.keep symR_flat (Keeps.of_below SB1.out (fun _ => False)) (fun _ h => h.elim)).keep symR_flat ((Keeps.refl (fun _ => False) W4).alloc _) (fun _ h => h.elim)).keep symR_flat hW (fun j hj => by have := HLn.out; omega)).lies) (by rw [List.length_map]; exact SY.out.1) SY.out.2.1 (by rw [List.length_map]; have := HSm.out.args; omega)) (sym_r W' c.res HRes.out))) (Nat.le_refl _) (by decide) (by simp)
  have q3 : (c.kind == 3) = false := beq_eq_false_iff_ne.2 e3
  by_cases e4 : c.kind = 4
  · have hk := Lib.hid e4
    have q4 : (c.kind == 4) = true := by simp [e4]
    clear e0 e1 e2 e3 e4
    obtain ⟨valsT, t1, t2, t3, t4⟩ := lies_flat (fun W vs x h => one_sexp W vs x h) H0.out.terms
    have T1 := Lib.hid t1
    have T2 := Lib.hid t2
    have T3 := Lib.hid t3
    have T4 := Lib.hid t4
    clear t1 t2 t3 t4
    obtain ⟨i0, hi0, z0, z1, z2⟩ := info_parts info_sexp
    have I0 := Lib.hid hi0
    have I1 := Lib.hid z0
    have I2 := Lib.hid z1
    have I3 := Lib.hid z2
    clear hi0 z0 z1 z2
    go_wp2_with fail
    go_loopw [6, 7] (fun v' i' wr => ∃ k : Nat, k ≤ c.params.length ∧ i' = .int .i64 k ∧ ∃ ts : List Trip, ts.map (fun t => t.1) = c.params.take k ∧ Grows 3 TripR 25 w wk.heap.size wr v' ts ∧ (∀ t ∈ ts, PairOk wk.heap.size wr v'.ownBlock t) ∧ Below wk.heap.size wk wr) (fun _ i' _ => c.params.length - (intOf i').toNat)
    case atStart => exact ⟨0, Nat.zero_le _, rfl, [], rfl, Grows.nil _, fun t ht => by simp at ht, Below.refl _ _⟩
    case round =>
      obtain ⟨k, hk', rfl, ts, hts, hg, hok, hb⟩ := hrel
      have HG := Lib.hid hg
      have HTs := Lib.hid hts
      have HOk := Lib.hid hok
      have HBr := Lib.hid hb
      have HBW := Lib.hid (BW.out.trans (hb.mono BW.out.size))
      have NBr := Lib.hid ((hb.block _ (lt_of_block NB.out)).trans NB.out)
      obtain ⟨vals, ho, hrr⟩ := hg.row
      have hlk : ts.length = k := by have := congrArg List.length hts; simp at this; omega
      have hvl : vals.length = ts.length * 3 := ho.1
      rw [hlk] at ho
      obtain ⟨Ao, co, rfl⟩ := shape_of_owns ho
      have HOw := Lib.hid ho
      have HRr := Lib.hid hrr
      have HLk' := Lib.hid hlk
      have HVl := Lib.hid hvl
      have HSz := Lib.hid hb.size
      clear hg ho hrr hlk hvl hb hts hok n0 n1 n2 n3 n4 n5 n6 n7 nf
      obtain ⟨n0, n1, n2, n3, n4, n5, n6, n7, nf⟩ := eight_cells NBr.out
      by_cases hlt : k < c.params.length
      · have hlt2 : (k : Int) < (c.params.length : Int) := by omega
        have hk48 : k < 1000000 := by have := HSm.out.params; omega
        obtain ⟨b, o, hA3, hbw, p0, p1⟩ := pair_get' H.out.params hlt
        subst hA3
        have HPz := Lib.hid (pair_size H.out.params hlt)
        have HTk' := Lib.hid (take_snoc (d := (noS, noS)) hlt)
        generalize c.params.getD k (noS, noS) = p at *
        obtain ⟨_, _, _, _, _, m5, _, _, _⟩ := eight_cells NB.out
        have HSx := Lib.hid (fun W (h : Below wk.heap.size wk W) => show W.cell? ⟨w.heap.size, 5, none⟩ = some (.slice (some ⟨b, o, none⟩) c.params.length c3) ∧ W.cell? ⟨b, o + k * 2, none⟩ = some (.string p.1) ∧ W.cell? ⟨b, o + k * 2 + 1, none⟩ = some (.string p.2) from ⟨(h.cell (p := ⟨w.heap.size, 5, none⟩) HLn.out).trans m5, ((BW.out.trans (h.mono BW.out.size)).cell (p := ⟨b, o + k * 2, none⟩) hbw).trans p0, ((BW.out.trans (h.mono BW.out.size)).cell (p := ⟨b, o + k * 2 + 1, none⟩) hbw).trans p1⟩)
        replace p0 := (HBW.out.cell (p := ⟨b, o + k * 2, none⟩) hbw).trans p0
        replace p1 := (HBW.out.cell (p := ⟨b, o + k * 2 + 1, none⟩) hbw).trans p1
        clear m5 hbw
        have B0 := Lib.hid HBr.out.drew
        go_wp2_with fail
        refine wp_region_held_drew (S := fun W => W.cell? ⟨w.heap.size, 5, none⟩ = some (.slice (some ⟨b, o, none⟩) c.params.length c3) ∧ W.cell? ⟨b, o + k * 2, none⟩ = some (.string p.1) ∧ W.cell? ⟨b, o + k * 2 + 1, none⟩ = some (.string p.2)) (by kernel_rfl) (HSx.out _ B0.out) (fun hHeld => ?_)
        clear p0 p1
        refine wpAnyH_take (i := 0) (oi := Oper.mk _ _ _ _ _ _) (v := ?_) rfl (by kernel_rfl) (by kernel_rfl) (by kernel_rfl) (fun _ _ _ h => h) (Or.inl ⟨by rfl, ?_⟩) (by assumption) ?_
        rotate_left
        · (intro w hSw; (try dsimp only at hSw); go_simp; try with_reducible rfl)
        try simp only [Act.put, List.setIfInBounds_toArray, List.set_cons_zero, List.set_cons_succ]
        refine wpAnyH_take (i := 1) (oi := Oper.mk _ _ _ _ _ _) (v := ?_) rfl (by kernel_rfl) (by kernel_rfl) (by kernel_rfl) (fun _ _ _ h => h) (Or.inl ⟨by rfl, ?_⟩) (by assumption) ?_
        rotate_left
        · (intro w hSw; (try dsimp only at hSw); go_simp; try with_reducible rfl)
        try simp only [Act.put, List.setIfInBounds_toArray, List.set_cons_zero, List.set_cons_succ]
        refine wpAnyH_take (i := 2) (oi := Oper.mk _ _ _ _ _ _) (v := ?_) rfl (by kernel_rfl) (by kernel_rfl) (by kernel_rfl) (fun _ _ _ h => h) (Or.inl ⟨by rfl, ?_⟩) (by assumption) ?_
        rotate_left
        · (intro w hSw; (try dsimp only at hSw); go_simp; try with_reducible rfl)
        try simp only [Act.put, List.setIfInBounds_toArray, List.set_cons_zero, List.set_cons_succ]
        refine wpAnyH_take (i := 3) (oi := Oper.mk _ _ _ _ _ _) (v := ?_) rfl (by kernel_rfl) (by kernel_rfl) (by kernel_rfl) (fun _ _ _ h => h) (Or.inl ⟨by rfl, ?_⟩) (by assumption) ?_
        rotate_left
        · (intro w hSw; (try dsimp only at hSw); go_simp; try with_reducible rfl)
        try simp only [Act.put, List.setIfInBounds_toArray, List.set_cons_zero, List.set_cons_succ]
        refine wpAnyH_take (i := 4) (oi := Oper.mk _ _ _ _ _ _) (v := ?_) rfl (by kernel_rfl) (by kernel_rfl) (by kernel_rfl) (fun _ _ _ h => h) (Or.inl ⟨by rfl, ?_⟩) (by assumption) ?_
        rotate_left
        · (intro w hSw; (try dsimp only at hSw); go_simp; try with_reducible rfl)
        try simp only [Act.put, List.setIfInBounds_toArray, List.set_cons_zero, List.set_cons_succ]
        refine wpAnyH_take (i := 5) (oi := Oper.mk _ _ _ _ _ _) (v := ?_) rfl (by kernel_rfl) (by kernel_rfl) (by kernel_rfl) (fun _ _ _ h => h) (Or.inl ⟨by rfl, ?_⟩) (by assumption) ?_
        rotate_left
        · (intro w hSw; (try dsimp only at hSw); go_simp; try with_reducible rfl)
        try simp only [Act.put, List.setIfInBounds_toArray, List.set_cons_zero, List.set_cons_succ]
        refine wpAnyH_take (i := 6) (oi := Oper.mk _ _ _ _ _ _) (v := ?_) rfl (by kernel_rfl) (by kernel_rfl) (by kernel_rfl) (fun _ _ _ h => h) (Or.inl ⟨by rfl, ?_⟩) (by assumption) ?_
        rotate_left
        · (intro w hSw; (try dsimp only at hSw); go_simp; try with_reducible rfl)
        try simp only [Act.put, List.setIfInBounds_toArray, List.set_cons_zero, List.set_cons_succ]
        refine wpAnyH_take (i := 7) (oi := Oper.mk _ _ _ _ _ _) (v := ?_) rfl (by kernel_rfl) (by kernel_rfl) (by kernel_rfl) (fun _ _ _ h => h) (Or.inl ⟨by rfl, ?_⟩) (by assumption) ?_
        rotate_left
        · (intro w hSw; (try dsimp only at hSw); go_simp; try with_reducible rfl)
        try simp only [Act.put, List.setIfInBounds_toArray, List.set_cons_zero, List.set_cons_succ]
        refine wpAnyH_take (i := 8) (oi := Oper.mk _ _ _ _ _ _) (v := ?_) rfl (by kernel_rfl) (by kernel_rfl) (by kernel_rfl) (fun _ _ _ h => h) (Or.inl ⟨by rfl, ?_⟩) (by assumption) ?_
        rotate_left
        · (intro w hSw; (try dsimp only at hSw); go_simp; try with_reducible rfl)
        try simp only [Act.put, List.setIfInBounds_toArray, List.set_cons_zero, List.set_cons_succ]
        refine wpAnyH_take (i := 9) (oi := Oper.mk _ _ _ _ _ _) (v := ?_) rfl (by kernel_rfl) (by kernel_rfl) (by kernel_rfl) (fun _ _ _ h => h) (Or.inl ⟨by rfl, ?_⟩) (by assumption) ?_
        rotate_left
        · (intro w hSw; (try dsimp only at hSw); go_simp; try with_reducible rfl)
        try simp only [Act.put, List.setIfInBounds_toArray, List.set_cons_zero, List.set_cons_succ]
        refine wpAnyH_take (i := 10) (oi := Oper.mk _ _ _ _ _ _) (v := ?_) rfl (by kernel_rfl) (by kernel_rfl) (by kernel_rfl) (fun _ _ _ h => h) (Or.inl ⟨by rfl, ?_⟩) (by assumption) ?_
        rotate_left
        · (intro w hSw; (try dsimp only at hSw); go_simp; try with_reducible rfl)
        try simp only [Act.put, List.setIfInBounds_toArray, List.set_cons_zero, List.set_cons_succ]
        refine wpAnyH_take (i := 11) (oi := Oper.mk _ _ _ _ _ _) (v := ?_) rfl (by kernel_rfl) (by kernel_rfl) (by kernel_rfl) (fun _ _ _ h => h) (Or.inl ⟨by rfl, ?_⟩) (by assumption) ?_
        rotate_left
        · (intro w hSw; (try dsimp only at hSw); go_simp; try with_reducible rfl)
        try simp only [Act.put, List.setIfInBounds_toArray, List.set_cons_zero, List.set_cons_succ]
        refine wpAnyH_take (i := 12) (oi := Oper.mk _ _ _ _ _ _) (v := ?_) rfl (by kernel_rfl) (by kernel_rfl) (by kernel_rfl) (fun _ _ _ h => h) (Or.inl ⟨by rfl, ?_⟩) (by assumption) ?_
        rotate_left
        · (intro w hSw; (try dsimp only at hSw); go_simp; try with_reducible rfl)
        try simp only [Act.put, List.setIfInBounds_toArray, List.set_cons_zero, List.set_cons_succ]
        have HLp := Lib.hid (strs_two wr.drew p.1 p.2 HPz.out.1 HPz.out.2 9)
        have R1 := Lib.hid (((Below.refl wr.heap.size wr).drew).alloc (Nat.le_refl _) (.cells #[.string p.1, .string p.2] 9))
        have B1 := Lib.hid (B0.out.alloc B0.out.size (.cells #[.string p.1, .string p.2] 9))
        refine wpAnyH_ready (rs := [13]) (by kernel_rfl) (by simp) ?_
        refine AllReadyH.cons (o := Oper.mk _ _ _ _ _ _) rfl (fun K hK => ?_) AllReadyH.nil
        go_simp
        refine hK.out _ _ (HSx.out _ B1.out) (fun hHeld => ?_)
        clear hK K
        try simp only [Act.put, List.setIfInBounds_toArray, List.set_cons_zero, List.set_cons_succ]
        refine wpAnyH_ready (rs := [14]) (by kernel_rfl) (by simp) ?_
        refine AllReadyH.cons (o := Oper.mk _ _ _ _ _ _) rfl (fun K hK => ?_) AllReadyH.nil
        go_simp
        go_wp2_with (go_at_call 71; refine (rsymbols_any [p.1, p.2] (some ⟨wr.drew.heap.size, 0, none⟩) 2 _ HLp.out (by simp)).mono ?_; rintro e W2 ⟨As, cs, ⟨rfl, s1, s2⟩, s3, hb⟩; have B2 := Lib.hid (B1.out.trans (hb.mono B1.out.size)); have R2 := Lib.hid (R1.out.trans (hb.mono R1.out.size)); have HOw2 := Lib.hid (owns_keep HOw.out (Keeps.of_below R2.out (fun _ => False)) (fun _ h => h.elim)); have S3 := Lib.hid s3; have S12 := Lib.hid (And.intro s1 s2); clear hb s1 s2 s3)
        refine hK.out _ _ (HSx.out _ B2.out) (fun hHeld => ?_)
        clear hK K
        try simp only [Act.put, List.setIfInBounds_toArray, List.set_cons_zero, List.set_cons_succ]
        have B3 := Lib.hid (B2.out.alloc B2.out.size (.cells #[.int .i8 3, .string { data := #[] }, .slice As 2 cs] 25))
        have HOA := Lib.hid (show World.ownsRow (W2.alloc (.cells #[.int .i8 3, .string { data := #[] }, .slice As 2 cs] 25)) wk.heap.size 25 3 (.slice Ao k co) k vals from HOw2.out.alloc _)
        have HCl := Lib.hid (Cells.new W2 [.int .i8 3, .string { data := #[] }, .slice As 2 cs] 25 (0, 0))
        have HSz2 := Lib.hid B2.out.size
        refine wpAnyH_ready (rs := [15]) (by kernel_rfl) (by simp) ?_
        refine AllReadyH.cons (o := Oper.mk _ _ _ _ _ _) rfl (fun K hK => ?_) AllReadyH.nil
        go_simp
        refine hK.out _ _ (HSx.out _ B3.out) (fun hHeld => ?_)
        clear hK K
        try simp only [Act.put, List.setIfInBounds_toArray, List.set_cons_zero, List.set_cons_succ]
        refine wpAnyH_ready (rs := [16]) (by kernel_rfl) (by simp) ?_
        refine AllReadyH.cons (o := Oper.mk _ _ _ _ _ _) rfl (fun K hK => ?_) AllReadyH.nil
        (refine step_append_at (by rfl) _ _ _ (by rfl) wk.heap.size 25 i0 (.agg #[.int .i8 0, .string { data := #[] }, .slice none 0 0]) 3 48 Tryz.underlying23 I0.out I1.out I2.out I3.out rfl (by decide) (.slice Ao k co) k vals (by rfl) HOA.out (some ⟨W2.heap.size, 0, none⟩) 1 1 [.int .i8 3, .string { data := #[] }, .slice As 2 cs] (by rfl) rfl HCl.out (by simp [Value.oneCell']) (by unfold maxLen; omega) (by omega) (by have := HSz2.out; simp; omega) ?_; intro v' w9 hown hgr hat; obtain ⟨A9, c9, rfl⟩ := shape_of_owns hown; have B9 := Lib.hid (B3.out.grown hgr (by have := HSz2.out; simp; omega) (fun q hq => (HOA.out.lt q hq).1)); have OW9 := Lib.hid hown; have HGr := Lib.hid hgr; have HAt := Lib.hid hat; clear hown hgr hat)
        refine hK.out _ _ (HSx.out _ B9.out) (fun hHeld => ?_)
        clear hK K
        try simp only [Act.put, List.setIfInBounds_toArray, List.set_cons_zero, List.set_cons_succ]
        have HG10 := Lib.hid (show Grows 3 TripR 25 w wk.heap.size w9 (.slice A9 (k + 1) c9) (ts ++ [(p, As, cs)]) from
          Grows.push (vs := [.int .i8 3, .string { data := #[] }, .slice As 2 cs]) HVl.out HRr.out (by rw [HLk'.out]; exact OW9.out) rfl rfl)
        have HNew := Lib.hid (show PairOk wk.heap.size W2 (Value.slice Ao k co).ownBlock (p, As, cs) from pairOk_new S3.out S12.out.1 S12.out.2 (Nat.le_trans HSz.out (by simp)) (fun b hb => by have := (HOw.out.lt b hb).2; simp; omega))
        have HAll := Lib.hid (show ∀ t ∈ ts ++ [(p, As, cs)], PairOk wk.heap.size w9 (Value.slice A9 (k + 1) c9).ownBlock t from fun t ht => by
          have h8 : PairOk wk.heap.size W2 (Value.slice Ao k co).ownBlock t := by
            rcases List.mem_append.1 ht with h | h
            · exact (HOk.out t h).keep (Keeps.of_below R2.out (fun _ => False)) (fun _ _ _ h => h)
            · simp at h; subst h; exact HNew.out
          have hA := h8.keep (w' := W2.alloc (.cells #[.int .i8 3, .string { data := #[] }, .slice As 2 cs] 25)) ((Keeps.refl (fun _ => False) W2).alloc _) (fun _ _ _ h => h)
          exact hA.grown HGr.out HAt.out)
        have HTs' := Lib.hid (show (ts ++ [((p, As, cs) : Trip)]).map (fun t => t.1) = c.params.take (k + 1) by rw [List.map_append, HTs.out, HTk'.out]; rfl)
        refine wpAnyH_ready (rs := [17]) (by kernel_rfl) (by simp) ?_
        refine AllReadyH.cons (o := Oper.mk _ _ _ _ _ _) rfl (fun K hK => ?_) AllReadyH.nil
        go_simp
        refine hK.out _ _ ((by assumption)) (fun hHeld => ?_)
        clear hK K
        try simp only [Act.put, List.setIfInBounds_toArray, List.set_cons_zero, List.set_cons_succ]
        refine wpAnyH_done (by kernel_rfl) ?_ _
        clear hHeld
        go_wp2_with fail
        go_roundw
        case rel => exact ⟨k + 1, by omega, by go_num, ts ++ [(p, As, cs)], HTs'.out, HG10.out, HAll.out, B9.out⟩
        case measure => simp [intOf]; omega
      · obtain hkl : k = c.params.length := by omega
        subst hkl
        have HTe := Lib.hid (show ts.map (fun t => t.1) = c.params by have h := HTs.out; rw [List.take_length] at h; exact h)
        have HSh := Lib.hid (owns_shape HOw.out)
        have HLo := Lib.hid HLn.out
        have HLn := Lib.hid (lt_of_block NBr.out)
        have BW := Lib.hid HBW.out
        have HSx := Lib.hid (fun W (h : Below wr.heap.size wr W) => show W.cell? ⟨w.heap.size, 1, none⟩ = some (.string c.name) ∧ W.cell? ⟨w.heap.size, 6, none⟩ = some (.string c.res) ∧ W.cell? ⟨w.heap.size, 7, none⟩ = some (.slice A4 c.terms.length c4) from ⟨(h.cell (p := ⟨w.heap.size, 1, none⟩) HLn.out).trans n1, (h.cell (p := ⟨w.heap.size, 6, none⟩) HLn.out).trans n6, (h.cell (p := ⟨w.heap.size, 7, none⟩) HLn.out).trans n7⟩)
        have B0 := Lib.hid (Below.refl wr.heap.size wr).drew
        go_wp2_with fail
        refine wp_region_held_drew (S := fun W => W.cell? ⟨w.heap.size, 1, none⟩ = some (.string c.name) ∧ W.cell? ⟨w.heap.size, 6, none⟩ = some (.string c.res) ∧ W.cell? ⟨w.heap.size, 7, none⟩ = some (.slice A4 c.terms.length c4)) (by kernel_rfl) (HSx.out _ B0.out) (fun hHeld => ?_)
        refine wpAnyH_take (i := 1) (oi := Oper.mk _ _ _ _ _ _) (v := ?_) rfl (by kernel_rfl) (by kernel_rfl) (by kernel_rfl) (fun _ _ _ h => h) (Or.inl ⟨by rfl, ?_⟩) (by assumption) ?_
        rotate_left
        · (intro w hSw; (try dsimp only at hSw); go_simp; try with_reducible rfl)
        try simp only [Act.put, List.setIfInBounds_toArray, List.set_cons_zero, List.set_cons_succ]
        refine wpAnyH_take (i := 2) (oi := Oper.mk _ _ _ _ _ _) (v := ?_) rfl (by kernel_rfl) (by kernel_rfl) (by kernel_rfl) (fun _ _ _ h => h) (Or.inl ⟨by rfl, ?_⟩) (by assumption) ?_
        rotate_left
        · (intro w hSw; (try dsimp only at hSw); go_simp; try with_reducible rfl)
        try simp only [Act.put, List.setIfInBounds_toArray, List.set_cons_zero, List.set_cons_succ]
        refine wpAnyH_take (i := 4) (oi := Oper.mk _ _ _ _ _ _) (v := ?_) rfl (by kernel_rfl) (by kernel_rfl) (by kernel_rfl) (fun _ _ _ h => h) (Or.inl ⟨by rfl, ?_⟩) (by assumption) ?_
        rotate_left
        · (intro w hSw; (try dsimp only at hSw); go_simp; try with_reducible rfl)
        try simp only [Act.put, List.setIfInBounds_toArray, List.set_cons_zero, List.set_cons_succ]
        refine wpAnyH_take (i := 6) (oi := Oper.mk _ _ _ _ _ _) (v := ?_) rfl (by kernel_rfl) (by kernel_rfl) (by kernel_rfl) (fun _ _ _ h => h) (Or.inl ⟨by rfl, ?_⟩) (by assumption) ?_
        rotate_left
        · (intro w hSw; (try dsimp only at hSw); go_simp; try with_reducible rfl)
        try simp only [Act.put, List.setIfInBounds_toArray, List.set_cons_zero, List.set_cons_succ]
        refine wpAnyH_take (i := 7) (oi := Oper.mk _ _ _ _ _ _) (v := ?_) rfl (by kernel_rfl) (by kernel_rfl) (by kernel_rfl) (fun _ _ _ h => h) (Or.inl ⟨by rfl, ?_⟩) (by assumption) ?_
        rotate_left
        · (intro w hSw; (try dsimp only at hSw); go_simp; try with_reducible rfl)
        try simp only [Act.put, List.setIfInBounds_toArray, List.set_cons_zero, List.set_cons_succ]
        refine wpAnyH_take (i := 10) (oi := Oper.mk _ _ _ _ _ _) (v := ?_) rfl (by kernel_rfl) (by kernel_rfl) (by kernel_rfl) (fun _ _ _ h => h) (Or.inl ⟨by rfl, ?_⟩) (by assumption) ?_
        rotate_left
        · (intro w hSw; (try dsimp only at hSw); go_simp; try with_reducible rfl)
        try simp only [Act.put, List.setIfInBounds_toArray, List.set_cons_zero, List.set_cons_succ]
        refine wpAnyH_take (i := 11) (oi := Oper.mk _ _ _ _ _ _) (v := ?_) rfl (by kernel_rfl) (by kernel_rfl) (by kernel_rfl) (fun _ _ _ h => h) (Or.inl ⟨by rfl, ?_⟩) (by assumption) ?_
        rotate_left
        · (intro w hSw; (try dsimp only at hSw); go_simp; try with_reducible rfl)
        try simp only [Act.put, List.setIfInBounds_toArray, List.set_cons_zero, List.set_cons_succ]
        refine wpAnyH_ready (rs := [0]) (by kernel_rfl) (by simp) ?_
        refine AllReadyH.cons (o := Oper.mk _ _ _ _ _ _) rfl (fun K hK => ?_) AllReadyH.nil
        go_simp
        go_wp2_with (go_at_call 69; refine (rsym_any { data := #[100, 101, 102, 105, 110, 101, 45, 102, 117, 110] } _).mono ?_; rintro e W1 ⟨rfl, hb⟩; have B1 := Lib.hid (B0.out.trans (hb.mono B0.out.size)); clear hb)
        refine hK.out _ _ (HSx.out _ B1.out) (fun hHeld => ?_)
        clear hK K
        try simp only [Act.put, List.setIfInBounds_toArray, List.set_cons_zero, List.set_cons_succ]
        refine wpAnyH_ready (rs := [3]) (by kernel_rfl) (by simp) ?_
        refine AllReadyH.cons (o := Oper.mk _ _ _ _ _ _) rfl (fun K hK => ?_) AllReadyH.nil
        go_simp
        go_wp2_with (go_at_call 69; refine (rsym_any c.name _).mono ?_; rintro e W2 ⟨rfl, hb⟩; have B2 := Lib.hid (B1.out.trans (hb.mono B1.out.size)); clear hb)
        refine hK.out _ _ (HSx.out _ B2.out) (fun hHeld => ?_)
        clear hK K
        try simp only [Act.put, List.setIfInBounds_toArray, List.set_cons_zero, List.set_cons_succ]
        refine wpAnyH_ready (rs := [5]) (by kernel_rfl) (by simp) ?_
        refine AllReadyH.cons (o := Oper.mk _ _ _ _ _ _) rfl (fun K hK => ?_) AllReadyH.nil
        go_simp
        go_wp2_with (go_at_call 39; refine (rlist_any Ao c.params.length co _).mono ?_; rintro e W3 ⟨rfl, hb⟩; have B3 := Lib.hid (B2.out.trans (hb.mono B2.out.size)); clear hb)
        refine hK.out _ _ (HSx.out _ B3.out) (fun hHeld => ?_)
        clear hK K
        try simp only [Act.put, List.setIfInBounds_toArray, List.set_cons_zero, List.set_cons_succ]
        refine wpAnyH_ready (rs := [8]) (by kernel_rfl) (by simp) ?_
        refine AllReadyH.cons (o := Oper.mk _ _ _ _ _ _) rfl (fun K hK => ?_) AllReadyH.nil
        go_simp
        go_wp2_with (go_at_call 69; refine (rsym_any c.res _).mono ?_; rintro e W4 ⟨rfl, hb⟩; have B4 := Lib.hid (B3.out.trans (hb.mono B3.out.size)); clear hb)
        refine hK.out _ _ (HSx.out _ B4.out) (fun hHeld => ?_)
        clear hK K
        try simp only [Act.put, List.setIfInBounds_toArray, List.set_cons_zero, List.set_cons_succ]
        have L5 := Lib.hid (blk_new W4 (.cells #[.int .i8 0, .string { data := #[100, 101, 102, 105, 110, 101, 45, 102, 117, 110] }, .slice none 0 0, .int .i8 0, .string c.name, .slice none 0 0, .int .i8 3, .string { data := #[] }, .slice Ao c.params.length co, .int .i8 0, .string c.res, .slice none 0 0] 25))
        have B5 := Lib.hid (B4.out.alloc B4.out.size (.cells #[.int .i8 0, .string { data := #[100, 101, 102, 105, 110, 101, 45, 102, 117, 110] }, .slice none 0 0, .int .i8 0, .string c.name, .slice none 0 0, .int .i8 3, .string { data := #[] }, .slice Ao c.params.length co, .int .i8 0, .string c.res, .slice none 0 0] 25))
        refine wpAnyH_ready (rs := [9]) (by kernel_rfl) (by simp) ?_
        refine AllReadyH.cons (o := Oper.mk _ _ _ _ _ _) rfl (fun K hK => ?_) AllReadyH.nil
        go_simp
        refine hK.out _ _ (HSx.out _ B5.out) (fun hHeld => ?_)
        clear hK K
        try simp only [Act.put, List.setIfInBounds_toArray, List.set_cons_zero, List.set_cons_succ]
        have OL := Lib.hid (lit_owns W4 #[.int .i8 0, .string { data := #[100, 101, 102, 105, 110, 101, 45, 102, 117, 110] }, .slice none 0 0, .int .i8 0, .string c.name, .slice none 0 0, .int .i8 3, .string { data := #[] }, .slice Ao c.params.length co, .int .i8 0, .string c.res, .slice none 0 0] 25 4 wr.heap.size rfl B4.out.size (by decide))
        refine wpAnyH_ready (rs := [12]) (by kernel_rfl) (by simp) ?_
        refine AllReadyH.cons (o := Oper.mk _ _ _ _ _ _) rfl (fun K hK => ?_) AllReadyH.nil
        (refine step_append_at (by rfl) _ _ _ (by rfl) wr.heap.size 25 i0 (.agg #[.int .i8 0, .string { data := #[] }, .slice none 0 0]) 3 48 Tryz.underlying23 I0.out I1.out I2.out I3.out rfl (by decide) (.slice (some ⟨W4.heap.size, 0, none⟩) 4 4) 4 (#[.int .i8 0, .string { data := #[100, 101, 102, 105, 110, 101, 45, 102, 117, 110] }, .slice none 0 0, .int .i8 0, .string c.name, .slice none 0 0, .int .i8 3, .string { data := #[] }, .slice Ao c.params.length co, .int .i8 0, .string c.res, .slice none 0 0].toList) (by rfl) OL.out A4 c.terms.length c4 valsT (by rfl) T1.out (T2.out.on (HB0.out.trans ((BW.out.trans (B5.out.mono BW.out.size)).mono HB0.out.size))) T3.out (by have := HSm.out.terms; unfold maxLen; omega) (by have := HSm.out.terms; omega) B5.out.size ?_; intro v' W6 hown hgr hat; obtain ⟨A9, c9, rfl⟩ := shape_of_owns hown; have B6 := Lib.hid (B5.out.grown hgr B5.out.size (fun q hq => (OL.out.lt q hq).1)); have OW := Lib.hid hown; clear hown hgr hat)
        refine hK.out _ _ (HSx.out _ B6.out) (fun hHeld => ?_)
        clear hK K
        try simp only [Act.put, List.setIfInBounds_toArray, List.set_cons_zero, List.set_cons_succ]
        refine wpAnyH_ready (rs := [13]) (by kernel_rfl) (by simp) ?_
        refine AllReadyH.cons (o := Oper.mk _ _ _ _ _ _) rfl (fun K hK => ?_) AllReadyH.nil
        go_simp
        refine hK.out _ _ ((by assumption)) (fun hHeld => ?_)
        clear hK K
        try simp only [Act.put, List.setIfInBounds_toArray, List.set_cons_zero, List.set_cons_succ]
        refine wpAnyH_done (by kernel_rfl) ?_ _
        clear hHeld
        have HGw := Lib.hid (show Grows 3 TripR 25 w wk.heap.size wr (.slice Ao ts.length co) ts by rw [HLk'.out]; exact HG.out)
        have HOkw := Lib.hid (show ∀ t ∈ ts, PairOk wk.heap.size wr (Value.slice Ao ts.length co).ownBlock t from by rw [HLk'.out]; exact HOk.out)
        have HMp := Lib.hid (show ts.map (fun t => pairX t.1) = c.params.map pairX by rw [← HTe.out, List.map_map]; rfl)
        have HPl := Lib.hid (fun W' (hW : Keeps (fun j => W0.heap.size ≤ j ∧ j < w.heap.size) W6 W') => show Lies 3 SexpR W' Ao (c.params.map pairX) by rw [← HMp.out]; exact trips_lies (w0 := w) (t := 25) (grows_keep HGw.out ((Keeps.of_below B6.out (fun j => W0.heap.size ≤ j ∧ j < w.heap.size)).trans_same hW) (fun j hj => by have := HLo.out; omega)) (fun t ht => (HOkw.out t ht).keep ((Keeps.of_below B6.out (fun j => W0.heap.size ≤ j ∧ j < w.heap.size)).trans_same hW) (fun b h1 _ h2 => by have := HLo.out; omega)))
        go_wp2_with fail
        go_ret
        have OW := Lib.hid (show World.ownsRow W6 wr.heap.size 25 3 (.slice A9 (4 + c.terms.length) c9) (4 + c.terms.length) (cells3 [(symX sDefine, none, 0), (symX c.name, none, 0), (listX (c.params.map pairX), Ao, co), (symX c.res, none, 0)] ++ valsT) by rw [show cells3 [(symX sDefine, none, 0), (symX c.name, none, 0), (listX (c.params.map pairX), Ao, co), (symX c.res, none, 0)] = #[.int .i8 0, .string { data := #[100, 101, 102, 105, 110, 101, 45, 102, 117, 110] }, .slice none 0 0, .int .i8 0, .string c.name, .slice none 0 0, .int .i8 3, .string { data := #[] }, .slice Ao c.params.length co, .int .i8 0, .string c.res, .slice none 0 0].toList by simp only [cells3]; rw [show (listX (c.params.map pairX)).l.length = c.params.length from List.length_map _]; rfl]; exact OW.out)
        have HSh9 := Lib.hid (owns_shape OW.out)
        have HXl := Lib.hid (show ([symX sDefine, symX c.name, listX (c.params.map pairX), symX c.res] ++ c.terms).length = 4 + c.terms.length by simp; omega)
        have HF := rwrite_fin (lo := W0.heap.size) (w := w) (W := W6) (c' := c9) (A := A9) (c := c) (xs := [symX sDefine, symX c.name, listX (c.params.map pairX), symX c.res] ++ c.terms) (by unfold writeL; rw [hk.out]; rfl) (BW.out.trans (B6.out.mono BW.out.size)) (fun W' hW => owns_lies (owns_keep OW.out hW (fun j hj => by have := HLn.out; omega)) HXl.out (lit_more (ys := [(symX sDefine, none, 0), (symX c.name, none, 0), (listX (c.params.map pairX), Ao, co), (symX c.res, none, 0)]) (stay_below (HB0.out.trans ((BW.out.trans (B6.out.mono BW.out.size)).mono HB0.out.size)) hW) (bits_four (sym_r W' sDefine (by decide)) (sym_r W' c.name HName.out) (list_r (HPl.out W' hW) (by rw [List.length_map]; exact HSh.out.1) HSh.out.2 (by rw [List.length_map]; have := HSm.out.params; omega)) (sym_r W' c.res HRes.out)) T4.out)) (by rw [HXl.out]; exact HSh9.out.1) HSh9.out.2 (by rw [HXl.out]; have := HSm.out.terms; omega)
        rw [HXl.out] at HF
        exact HF
  have q4 : (c.kind == 4) = false := beq_eq_false_iff_ne.2 e4
  by_cases e5 : c.kind = 5
  · have hk := Lib.hid e5
    have q5 : (c.kind == 5) = true := by simp [e5]
    clear e0 e1 e2 e3 e4 e5
    obtain ⟨valsT, t1, t2, t3, t4⟩ := lies_flat (fun W vs x h => one_sexp W vs x h) H0.out.terms
    have T1 := Lib.hid t1
    have T2 := Lib.hid t2
    have T3 := Lib.hid t3
    have T4 := Lib.hid t4
    clear t1 t2 t3 t4
    obtain ⟨i0, hi0, z0, z1, z2⟩ := info_parts info_sexp
    have I0 := Lib.hid hi0
    have I1 := Lib.hid z0
    have I2 := Lib.hid z1
    have I3 := Lib.hid z2
    clear hi0 z0 z1 z2
    have HSx := Lib.hid (fun W (h : Below wk.heap.size wk W) => show W.cell? ⟨w.heap.size, 7, none⟩ = some (.slice A4 c.terms.length c4) from (h.cell (p := ⟨w.heap.size, 7, none⟩) HLn.out).trans n7)
    have B0 := Lib.hid (Below.refl wk.heap.size wk).drew
    go_wp2_with fail
    refine wp_region_held_drew (S := fun W => W.cell? ⟨w.heap.size, 7, none⟩ = some (.slice A4 c.terms.length c4)) (by kernel_rfl) (HSx.out _ B0.out) (fun hHeld => ?_)
    refine wpAnyH_take (i := 2) (oi := Oper.mk _ _ _ _ _ _) (v := ?_) rfl (by kernel_rfl) (by kernel_rfl) (by kernel_rfl) (fun _ _ _ h => h) (Or.inl ⟨by rfl, ?_⟩) (by assumption) ?_
    rotate_left
    · (intro w hSw; (try dsimp only at hSw); go_simp; try with_reducible rfl)
    try simp only [Act.put, List.setIfInBounds_toArray, List.set_cons_zero, List.set_cons_succ]
    refine wpAnyH_take (i := 3) (oi := Oper.mk _ _ _ _ _ _) (v := ?_) rfl (by kernel_rfl) (by kernel_rfl) (by kernel_rfl) (fun _ _ _ h => h) (Or.inl ⟨by rfl, ?_⟩) (by assumption) ?_
    rotate_left
    · (intro w hSw; (try dsimp only at hSw); go_simp; try with_reducible rfl)
    try simp only [Act.put, List.setIfInBounds_toArray, List.set_cons_zero, List.set_cons_succ]
    refine wpAnyH_ready (rs := [0]) (by kernel_rfl) (by simp) ?_
    refine AllReadyH.cons (o := Oper.mk _ _ _ _ _ _) rfl (fun K hK => ?_) AllReadyH.nil
    go_simp
    go_wp2_with (go_at_call 69; refine (rsym_any { data := #[97, 115, 115, 101, 114, 116] } _).mono ?_; rintro e W1 ⟨rfl, hb⟩; have B1 := Lib.hid (B0.out.trans (hb.mono B0.out.size)); clear hb)
    refine hK.out _ _ (HSx.out _ B1.out) (fun hHeld => ?_)
    clear hK K
    try simp only [Act.put, List.setIfInBounds_toArray, List.set_cons_zero, List.set_cons_succ]
    have L2 := Lib.hid (blk_new W1 (.cells #[.int .i8 0, .string { data := #[97, 115, 115, 101, 114, 116] }, .slice none 0 0] 25))
    have B2 := Lib.hid (B1.out.alloc B1.out.size (.cells #[.int .i8 0, .string { data := #[97, 115, 115, 101, 114, 116] }, .slice none 0 0] 25))
    refine wpAnyH_ready (rs := [1]) (by kernel_rfl) (by simp) ?_
    refine AllReadyH.cons (o := Oper.mk _ _ _ _ _ _) rfl (fun K hK => ?_) AllReadyH.nil
    go_simp
    refine hK.out _ _ (HSx.out _ B2.out) (fun hHeld => ?_)
    clear hK K
    try simp only [Act.put, List.setIfInBounds_toArray, List.set_cons_zero, List.set_cons_succ]
    have OL := Lib.hid (lit_owns W1 #[.int .i8 0, .string { data := #[97, 115, 115, 101, 114, 116] }, .slice none 0 0] 25 1 wk.heap.size rfl B1.out.size (by decide))
    refine wpAnyH_ready (rs := [4]) (by kernel_rfl) (by simp) ?_
    refine AllReadyH.cons (o := Oper.mk _ _ _ _ _ _) rfl (fun K hK => ?_) AllReadyH.nil
    (refine step_append_at (by rfl) _ _ _ (by rfl) wk.heap.size 25 i0 (.agg #[.int .i8 0, .string { data := #[] }, .slice none 0 0]) 3 48 Tryz.underlying23 I0.out I1.out I2.out I3.out rfl (by decide) (.slice (some ⟨W1.heap.size, 0, none⟩) 1 1) 1 (#[.int .i8 0, .string { data := #[97, 115, 115, 101, 114, 116] }, .slice none 0 0].toList) (by rfl) OL.out A4 c.terms.length c4 valsT (by rfl) T1.out (T2.out.on (HB0.out.trans ((BW.out.trans (B2.out.mono BW.out.size)).mono HB0.out.size))) T3.out (by have := HSm.out.terms; unfold maxLen; omega) (by have := HSm.out.terms; omega) B2.out.size ?_; intro v' W3 hown hgr hat; obtain ⟨A9, c9, rfl⟩ := shape_of_owns hown; have B3 := Lib.hid (B2.out.grown hgr B2.out.size (fun q hq => (OL.out.lt q hq).1)); have OW := Lib.hid hown; clear hown hgr hat)
    refine hK.out _ _ (HSx.out _ B3.out) (fun hHeld => ?_)
    clear hK K
    try simp only [Act.put, List.setIfInBounds_toArray, List.set_cons_zero, List.set_cons_succ]
    refine wpAnyH_ready (rs := [5]) (by kernel_rfl) (by simp) ?_
    refine AllReadyH.cons (o := Oper.mk _ _ _ _ _ _) rfl (fun K hK => ?_) AllReadyH.nil
    go_simp
    refine hK.out _ _ ((by assumption)) (fun hHeld => ?_)
    clear hK K
    try simp only [Act.put, List.setIfInBounds_toArray, List.set_cons_zero, List.set_cons_succ]
    refine wpAnyH_done (by kernel_rfl) ?_ _
    clear hHeld
    go_wp2_with fail
    go_ret
    have HSh9 := Lib.hid (owns_shape OW.out)
    have HXl := Lib.hid (show (symX sAssert :: c.terms).length = 1 + c.terms.length by simp; omega)
    have HF := rwrite_fin (lo := W0.heap.size) (w := w) (W := W3) (c' := c9) (A := A9) (c := c) (xs := symX sAssert :: c.terms) (by unfold writeL; rw [hk.out]; rfl) (BW.out.trans (B3.out.mono BW.out.size)) (fun W' hW => owns_lies (owns_keep OW.out hW (fun j hj => by have := HLn.out; omega)) HXl.out (lit_more (ys := [(symX sAssert, none, 0)]) (stay_below (HB0.out.trans ((BW.out.trans (B3.out.mono BW.out.size)).mono HB0.out.size)) hW) (bits_one (sym_r W' sAssert (by decide))) T4.out)) (by rw [HXl.out]; exact HSh9.out.1) HSh9.out.2 (by rw [HXl.out]; have := HSm.out.terms; omega)
    rw [HXl.out] at HF
    exact HF
  have q5 : (c.kind == 5) = false := beq_eq_false_iff_ne.2 e5
  by_cases e6 : c.kind = 6
  · have hk := Lib.hid e6
    have q6 : (c.kind == 6) = true := by simp [e6]
    clear e0 e1 e2 e3 e4 e5 e6
    have HSx := Lib.hid (fun W (h : Below wk.heap.size wk W) => show W.cell? ⟨w.heap.size, 2, none⟩ = some (.int .i64 c.n) from (h.cell (p := ⟨w.heap.size, 2, none⟩) HLn.out).trans n2)
    have B0 := Lib.hid (Below.refl wk.heap.size wk).drew
    go_wp2_with fail
    refine wp_region_held_drew (S := fun W => W.cell? ⟨w.heap.size, 2, none⟩ = some (.int .i64 c.n)) (by kernel_rfl) (HSx.out _ B0.out) (fun hHeld => ?_)
    refine wpAnyH_take (i := 1) (oi := Oper.mk _ _ _ _ _ _) (v := ?_) rfl (by kernel_rfl) (by kernel_rfl) (by kernel_rfl) (fun _ _ _ h => h) (Or.inl ⟨by rfl, ?_⟩) (by assumption) ?_
    rotate_left
    · (intro w hSw; (try dsimp only at hSw); go_simp; try with_reducible rfl)
    try simp only [Act.put, List.setIfInBounds_toArray, List.set_cons_zero, List.set_cons_succ]
    refine wpAnyH_take (i := 2) (oi := Oper.mk _ _ _ _ _ _) (v := ?_) rfl (by kernel_rfl) (by kernel_rfl) (by kernel_rfl) (fun _ _ _ h => h) (Or.inl ⟨by rfl, ?_⟩) (by assumption) ?_
    rotate_left
    · (intro w hSw; (try dsimp only at hSw); go_simp; try with_reducible rfl)
    try simp only [Act.put, List.setIfInBounds_toArray, List.set_cons_zero, List.set_cons_succ]
    refine wpAnyH_ready (rs := [0]) (by kernel_rfl) (by simp) ?_
    refine AllReadyH.cons (o := Oper.mk _ _ _ _ _ _) rfl (fun K hK => ?_) AllReadyH.nil
    go_simp
    go_wp2_with (go_at_call 69; refine (rsym_any { data := #[112, 117, 115, 104] } _).mono ?_; rintro e W1 ⟨rfl, hb⟩; have B1 := Lib.hid (B0.out.trans (hb.mono B0.out.size)); clear hb)
    refine hK.out _ _ (HSx.out _ B1.out) (fun hHeld => ?_)
    clear hK K
    try simp only [Act.put, List.setIfInBounds_toArray, List.set_cons_zero, List.set_cons_succ]
    refine wpAnyH_ready (rs := [3]) (by kernel_rfl) (by simp) ?_
    refine AllReadyH.cons (o := Oper.mk _ _ _ _ _ _) rfl (fun K hK => ?_) AllReadyH.nil
    go_simp
    go_wp2_with (go_at_call 70; refine (rnum_any c.n HI.out _).mono ?_; rintro e W2 ⟨rfl, hb⟩; have B2 := Lib.hid (B1.out.trans (hb.mono B1.out.size)); clear hb)
    refine hK.out _ _ (HSx.out _ B2.out) (fun hHeld => ?_)
    clear hK K
    try simp only [Act.put, List.setIfInBounds_toArray, List.set_cons_zero, List.set_cons_succ]
    have L3 := Lib.hid (blk_new W2 (.cells #[.int .i8 0, .string { data := #[112, 117, 115, 104] }, .slice none 0 0, .int .i8 1, .string ⟨(textL c.n).toArray⟩, .slice none 0 0] 25))
    have B3 := Lib.hid (B2.out.alloc B2.out.size (.cells #[.int .i8 0, .string { data := #[112, 117, 115, 104] }, .slice none 0 0, .int .i8 1, .string ⟨(textL c.n).toArray⟩, .slice none 0 0] 25))
    refine wpAnyH_ready (rs := [4]) (by kernel_rfl) (by simp) ?_
    refine AllReadyH.cons (o := Oper.mk _ _ _ _ _ _) rfl (fun K hK => ?_) AllReadyH.nil
    go_simp
    refine hK.out _ _ (HSx.out _ B3.out) (fun hHeld => ?_)
    clear hK K
    try simp only [Act.put, List.setIfInBounds_toArray, List.set_cons_zero, List.set_cons_succ]
    refine wpAnyH_ready (rs := [5]) (by kernel_rfl) (by simp) ?_
    refine AllReadyH.cons (o := Oper.mk _ _ _ _ _ _) rfl (fun K hK => ?_) AllReadyH.nil
    go_simp
    refine hK.out _ _ ((by assumption)) (fun hHeld => ?_)
    clear hK K
    try simp only [Act.put, List.setIfInBounds_toArray, List.set_cons_zero, List.set_cons_succ]
    refine wpAnyH_done (by kernel_rfl) ?_ _
    clear hHeld
    go_wp2_with fail
    go_ret
    exact rwrite_fin (c := c) (xs := [symX sPush, numX c.n]) (by unfold writeL; rw [hk.out]; rfl) (BW.out.trans (B3.out.mono BW.out.size)) (fun W' hW => lit_keep (ys := [(symX sPush, none, 0), (numX c.n, none, 0)]) L3.out hW (by have := B2.out.size; have := HLn.out; omega) rfl (bits_two (sym_r W' sPush (by decide)) (num_r W' c.n HI.out))) (Nat.le_refl _) (by decide) (by simp)
  have q6 : (c.kind == 6) = false := beq_eq_false_iff_ne.2 e6
  by_cases e7 : c.kind = 7
  · have hk := Lib.hid e7
    have q7 : (c.kind == 7) = true := by simp [e7]
    clear e0 e1 e2 e3 e4 e5 e6 e7
    have HSx := Lib.hid (fun W (h : Below wk.heap.size wk W) => show W.cell? ⟨w.heap.size, 2, none⟩ = some (.int .i64 c.n) from (h.cell (p := ⟨w.heap.size, 2, none⟩) HLn.out).trans n2)
    have B0 := Lib.hid (Below.refl wk.heap.size wk).drew
    go_wp2_with fail
    refine wp_region_held_drew (S := fun W => W.cell? ⟨w.heap.size, 2, none⟩ = some (.int .i64 c.n)) (by kernel_rfl) (HSx.out _ B0.out) (fun hHeld => ?_)
    refine wpAnyH_take (i := 1) (oi := Oper.mk _ _ _ _ _ _) (v := ?_) rfl (by kernel_rfl) (by kernel_rfl) (by kernel_rfl) (fun _ _ _ h => h) (Or.inl ⟨by rfl, ?_⟩) (by assumption) ?_
    rotate_left
    · (intro w hSw; (try dsimp only at hSw); go_simp; try with_reducible rfl)
    try simp only [Act.put, List.setIfInBounds_toArray, List.set_cons_zero, List.set_cons_succ]
    refine wpAnyH_take (i := 2) (oi := Oper.mk _ _ _ _ _ _) (v := ?_) rfl (by kernel_rfl) (by kernel_rfl) (by kernel_rfl) (fun _ _ _ h => h) (Or.inl ⟨by rfl, ?_⟩) (by assumption) ?_
    rotate_left
    · (intro w hSw; (try dsimp only at hSw); go_simp; try with_reducible rfl)
    try simp only [Act.put, List.setIfInBounds_toArray, List.set_cons_zero, List.set_cons_succ]
    refine wpAnyH_ready (rs := [0]) (by kernel_rfl) (by simp) ?_
    refine AllReadyH.cons (o := Oper.mk _ _ _ _ _ _) rfl (fun K hK => ?_) AllReadyH.nil
    go_simp
    go_wp2_with (go_at_call 69; refine (rsym_any { data := #[112, 111, 112] } _).mono ?_; rintro e W1 ⟨rfl, hb⟩; have B1 := Lib.hid (B0.out.trans (hb.mono B0.out.size)); clear hb)
    refine hK.out _ _ (HSx.out _ B1.out) (fun hHeld => ?_)
    clear hK K
    try simp only [Act.put, List.setIfInBounds_toArray, List.set_cons_zero, List.set_cons_succ]
    refine wpAnyH_ready (rs := [3]) (by kernel_rfl) (by simp) ?_
    refine AllReadyH.cons (o := Oper.mk _ _ _ _ _ _) rfl (fun K hK => ?_) AllReadyH.nil
    go_simp
    go_wp2_with (go_at_call 70; refine (rnum_any c.n HI.out _).mono ?_; rintro e W2 ⟨rfl, hb⟩; have B2 := Lib.hid (B1.out.trans (hb.mono B1.out.size)); clear hb)
    refine hK.out _ _ (HSx.out _ B2.out) (fun hHeld => ?_)
    clear hK K
    try simp only [Act.put, List.setIfInBounds_toArray, List.set_cons_zero, List.set_cons_succ]
    have L3 := Lib.hid (blk_new W2 (.cells #[.int .i8 0, .string { data := #[112, 111, 112] }, .slice none 0 0, .int .i8 1, .string ⟨(textL c.n).toArray⟩, .slice none 0 0] 25))
    have B3 := Lib.hid (B2.out.alloc B2.out.size (.cells #[.int .i8 0, .string { data := #[112, 111, 112] }, .slice none 0 0, .int .i8 1, .string ⟨(textL c.n).toArray⟩, .slice none 0 0] 25))
    refine wpAnyH_ready (rs := [4]) (by kernel_rfl) (by simp) ?_
    refine AllReadyH.cons (o := Oper.mk _ _ _ _ _ _) rfl (fun K hK => ?_) AllReadyH.nil
    go_simp
    refine hK.out _ _ (HSx.out _ B3.out) (fun hHeld => ?_)
    clear hK K
    try simp only [Act.put, List.setIfInBounds_toArray, List.set_cons_zero, List.set_cons_succ]
    refine wpAnyH_ready (rs := [5]) (by kernel_rfl) (by simp) ?_
    refine AllReadyH.cons (o := Oper.mk _ _ _ _ _ _) rfl (fun K hK => ?_) AllReadyH.nil
    go_simp
    refine hK.out _ _ ((by assumption)) (fun hHeld => ?_)
    clear hK K
    try simp only [Act.put, List.setIfInBounds_toArray, List.set_cons_zero, List.set_cons_succ]
    refine wpAnyH_done (by kernel_rfl) ?_ _
    clear hHeld
    go_wp2_with fail
    go_ret
    exact rwrite_fin (c := c) (xs := [symX sPop, numX c.n]) (by unfold writeL; rw [hk.out]; rfl) (BW.out.trans (B3.out.mono BW.out.size)) (fun W' hW => lit_keep (ys := [(symX sPop, none, 0), (numX c.n, none, 0)]) L3.out hW (by have := B2.out.size; have := HLn.out; omega) rfl (bits_two (sym_r W' sPop (by decide)) (num_r W' c.n HI.out))) (Nat.le_refl _) (by decide) (by simp)
  have q7 : (c.kind == 7) = false := beq_eq_false_iff_ne.2 e7
  by_cases e8 : c.kind = 8
  · have hk := Lib.hid e8
    have q8 : (c.kind == 8) = true := by simp [e8]
    clear e0 e1 e2 e3 e4 e5 e6 e7 e8
    have HSy := Lib.hid (rsym_any { data := #[99, 104, 101, 99, 107, 45, 115, 97, 116] } wk)
    go_wp2_with fail
    refine HSy.out.mono ?_
    rintro e W1 ⟨rfl, hb⟩
    have B1 := Lib.hid hb
    have L2 := Lib.hid (blk_new W1 (.cells #[.int .i8 0, .string { data := #[99, 104, 101, 99, 107, 45, 115, 97, 116] }, .slice none 0 0] 25))
    have B2 := Lib.hid (B1.out.alloc B1.out.size (.cells #[.int .i8 0, .string { data := #[99, 104, 101, 99, 107, 45, 115, 97, 116] }, .slice none 0 0] 25))
    clear hb
    go_wp2_with fail
    go_ret
    exact rwrite_fin (c := c) (xs := [symX sCheck]) (by unfold writeL; rw [hk.out]; rfl) (BW.out.trans (B2.out.mono BW.out.size)) (fun W' hW => lit_keep (ys := [(symX sCheck, none, 0)]) L2.out hW (by have := B1.out.size; have := HLn.out; omega) rfl (bits_one (sym_r W' sCheck (by decide)))) (Nat.le_refl _) (by decide) (by simp)
  have q8 : (c.kind == 8) = false := beq_eq_false_iff_ne.2 e8
  by_cases e9 : c.kind = 9
  · have hk := Lib.hid e9
    have q9 : (c.kind == 9) = true := by simp [e9]
    clear e0 e1 e2 e3 e4 e5 e6 e7 e8 e9
    have HSy := Lib.hid (rsym_any { data := #[103, 101, 116, 45, 109, 111, 100, 101, 108] } wk)
    go_wp2_with fail
    refine HSy.out.mono ?_
    rintro e W1 ⟨rfl, hb⟩
    have B1 := Lib.hid hb
    have L2 := Lib.hid (blk_new W1 (.cells #[.int .i8 0, .string { data := #[103, 101, 116, 45, 109, 111, 100, 101, 108] }, .slice none 0 0] 25))
    have B2 := Lib.hid (B1.out.alloc B1.out.size (.cells #[.int .i8 0, .string { data := #[103, 101, 116, 45, 109, 111, 100, 101, 108] }, .slice none 0 0] 25))
    clear hb
    go_wp2_with fail
    go_ret
    exact rwrite_fin (c := c) (xs := [symX sModel]) (by unfold writeL; rw [hk.out]; rfl) (BW.out.trans (B2.out.mono BW.out.size)) (fun W' hW => lit_keep (ys := [(symX sModel, none, 0)]) L2.out hW (by have := B1.out.size; have := HLn.out; omega) rfl (bits_one (sym_r W' sModel (by decide)))) (Nat.le_refl _) (by decide) (by simp)
  have q9 : (c.kind == 9) = false := beq_eq_false_iff_ne.2 e9
  by_cases e10 : c.kind = 10
  · have hk := Lib.hid e10
    have q10 : (c.kind == 10) = true := by simp [e10]
    clear e0 e1 e2 e3 e4 e5 e6 e7 e8 e9 e10
    have HSx := Lib.hid (fun W (h : Below wk.heap.size wk W) => show W.cell? ⟨w.heap.size, 7, none⟩ = some (.slice A4 c.terms.length c4) from (h.cell (p := ⟨w.heap.size, 7, none⟩) HLn.out).trans n7)
    have B0 := Lib.hid (Below.refl wk.heap.size wk).drew
    go_wp2_with fail
    refine wp_region_held_drew (S := fun W => W.cell? ⟨w.heap.size, 7, none⟩ = some (.slice A4 c.terms.length c4)) (by kernel_rfl) (HSx.out _ B0.out) (fun hHeld => ?_)
    refine wpAnyH_take (i := 1) (oi := Oper.mk _ _ _ _ _ _) (v := ?_) rfl (by kernel_rfl) (by kernel_rfl) (by kernel_rfl) (fun _ _ _ h => h) (Or.inl ⟨by rfl, ?_⟩) (by assumption) ?_
    rotate_left
    · (intro w hSw; (try dsimp only at hSw); go_simp; try with_reducible rfl)
    try simp only [Act.put, List.setIfInBounds_toArray, List.set_cons_zero, List.set_cons_succ]
    refine wpAnyH_take (i := 2) (oi := Oper.mk _ _ _ _ _ _) (v := ?_) rfl (by kernel_rfl) (by kernel_rfl) (by kernel_rfl) (fun _ _ _ h => h) (Or.inl ⟨by rfl, ?_⟩) (by assumption) ?_
    rotate_left
    · (intro w hSw; (try dsimp only at hSw); go_simp; try with_reducible rfl)
    try simp only [Act.put, List.setIfInBounds_toArray, List.set_cons_zero, List.set_cons_succ]
    refine wpAnyH_ready (rs := [0]) (by kernel_rfl) (by simp) ?_
    refine AllReadyH.cons (o := Oper.mk _ _ _ _ _ _) rfl (fun K hK => ?_) AllReadyH.nil
    go_simp
    go_wp2_with (go_at_call 69; refine (rsym_any { data := #[103, 101, 116, 45, 118, 97, 108, 117, 101] } _).mono ?_; rintro e W1 ⟨rfl, hb⟩; have B1 := Lib.hid (B0.out.trans (hb.mono B0.out.size)); clear hb)
    refine hK.out _ _ (HSx.out _ B1.out) (fun hHeld => ?_)
    clear hK K
    try simp only [Act.put, List.setIfInBounds_toArray, List.set_cons_zero, List.set_cons_succ]
    refine wpAnyH_ready (rs := [3]) (by kernel_rfl) (by simp) ?_
    refine AllReadyH.cons (o := Oper.mk _ _ _ _ _ _) rfl (fun K hK => ?_) AllReadyH.nil
    go_simp
    go_wp2_with (go_at_call 39; refine (rlist_any A4 c.terms.length c4 _).mono ?_; rintro e W2 ⟨rfl, hb⟩; have B2 := Lib.hid (B1.out.trans (hb.mono B1.out.size)); clear hb)
    refine hK.out _ _ (HSx.out _ B2.out) (fun hHeld => ?_)
    clear hK K
    try simp only [Act.put, List.setIfInBounds_toArray, List.set_cons_zero, List.set_cons_succ]
    have L3 := Lib.hid (blk_new W2 (.cells #[.int .i8 0, .string { data := #[103, 101, 116, 45, 118, 97, 108, 117, 101] }, .slice none 0 0, .int .i8 3, .string { data := #[] }, .slice A4 c.terms.length c4] 25))
    have B3 := Lib.hid (B2.out.alloc B2.out.size (.cells #[.int .i8 0, .string { data := #[103, 101, 116, 45, 118, 97, 108, 117, 101] }, .slice none 0 0, .int .i8 3, .string { data := #[] }, .slice A4 c.terms.length c4] 25))
    refine wpAnyH_ready (rs := [4]) (by kernel_rfl) (by simp) ?_
    refine AllReadyH.cons (o := Oper.mk _ _ _ _ _ _) rfl (fun K hK => ?_) AllReadyH.nil
    go_simp
    refine hK.out _ _ (HSx.out _ B3.out) (fun hHeld => ?_)
    clear hK K
    try simp only [Act.put, List.setIfInBounds_toArray, List.set_cons_zero, List.set_cons_succ]
    refine wpAnyH_ready (rs := [5]) (by kernel_rfl) (by simp) ?_
    refine AllReadyH.cons (o := Oper.mk _ _ _ _ _ _) rfl (fun K hK => ?_) AllReadyH.nil
    go_simp
    refine hK.out _ _ ((by assumption)) (fun hHeld => ?_)
    clear hK K
    try simp only [Act.put, List.setIfInBounds_toArray, List.set_cons_zero, List.set_cons_succ]
    refine wpAnyH_done (by kernel_rfl) ?_ _
    clear hHeld
    go_wp2_with fail
    go_ret
    exact rwrite_fin (c := c) (xs := [symX sValue, listX c.terms]) (by unfold writeL; rw [hk.out]; rfl) (BW.out.trans (B3.out.mono BW.out.size)) (fun W' hW => lit_keep (ys := [(symX sValue, none, 0), (listX c.terms, A4, c4)]) L3.out hW (by have := B2.out.size; have := HLn.out; omega) rfl (bits_two (sym_r W' sValue (by decide)) (list_r (H0.out.terms.on SexpR.lasts (stay_below (HB0.out.trans ((BW.out.trans (B3.out.mono BW.out.size)).mono HB0.out.size)) hW)) H.out.l4 H.out.m4 H.out.b4))) (Nat.le_refl _) (by decide) (by simp)
  have q10 : (c.kind == 10) = false := beq_eq_false_iff_ne.2 e10
  by_cases e11 : c.kind = 11
  · have hk := Lib.hid e11
    have q11 : (c.kind == 11) = true := by simp [e11]
    clear e0 e1 e2 e3 e4 e5 e6 e7 e8 e9 e10 e11
    have HSy := Lib.hid (rsym_any { data := #[103, 101, 116, 45, 112, 114, 111, 111, 102] } wk)
    go_wp2_with fail
    refine HSy.out.mono ?_
    rintro e W1 ⟨rfl, hb⟩
    have B1 := Lib.hid hb
    have L2 := Lib.hid (blk_new W1 (.cells #[.int .i8 0, .string { data := #[103, 101, 116, 45, 112, 114, 111, 111, 102] }, .slice none 0 0] 25))
    have B2 := Lib.hid (B1.out.alloc B1.out.size (.cells #[.int .i8 0, .string { data := #[103, 101, 116, 45, 112, 114, 111, 111, 102] }, .slice none 0 0] 25))
    clear hb
    go_wp2_with fail
    go_ret
    exact rwrite_fin (c := c) (xs := [symX sProof]) (by unfold writeL; rw [hk.out]; rfl) (BW.out.trans (B2.out.mono BW.out.size)) (fun W' hW => lit_keep (ys := [(symX sProof, none, 0)]) L2.out hW (by have := B1.out.size; have := HLn.out; omega) rfl (bits_one (sym_r W' sProof (by decide)))) (Nat.le_refl _) (by decide) (by simp)
  have q11 : (c.kind == 11) = false := beq_eq_false_iff_ne.2 e11
  by_cases e12 : c.kind = 12
  · have hk := Lib.hid e12
    have q12 : (c.kind == 12) = true := by simp [e12]
    clear e0 e1 e2 e3 e4 e5 e6 e7 e8 e9 e10 e11 e12
    have HSy := Lib.hid (rsym_any { data := #[101, 120, 105, 116] } wk)
    go_wp2_with fail
    refine HSy.out.mono ?_
    rintro e W1 ⟨rfl, hb⟩
    have B1 := Lib.hid hb
    have L2 := Lib.hid (blk_new W1 (.cells #[.int .i8 0, .string { data := #[101, 120, 105, 116] }, .slice none 0 0] 25))
    have B2 := Lib.hid (B1.out.alloc B1.out.size (.cells #[.int .i8 0, .string { data := #[101, 120, 105, 116] }, .slice none 0 0] 25))
    clear hb
    go_wp2_with fail
    go_ret
    exact rwrite_fin (c := c) (xs := [symX sExit]) (by unfold writeL; rw [hk.out]; rfl) (BW.out.trans (B2.out.mono BW.out.size)) (fun W' hW => lit_keep (ys := [(symX sExit, none, 0)]) L2.out hW (by have := B1.out.size; have := HLn.out; omega) rfl (bits_one (sym_r W' sExit (by decide)))) (Nat.le_refl _) (by decide) (by simp)
  have q12 : (c.kind == 12) = false := beq_eq_false_iff_ne.2 e12
  have HX := Lib.hid (show writeL c = [] by unfold writeL; rw [if_neg e0, if_neg e1, if_neg e2, if_neg e3, if_neg e4, if_neg e5, if_neg e6, if_neg e7, if_neg e8, if_neg e9, if_neg e10, if_neg e11, if_neg e12])
  clear e0 e1 e2 e3 e4 e5 e6 e7 e8 e9 e10 e11 e12
  go_wp2_with fail
  go_ret
  exact rwrite_fin (c := c) (xs := []) HX.out BW.out (fun W' _ => .inl rfl) (Nat.le_refl _) (Nat.zero_le _) (by simp)
end Go.Proofs.YtbchcipjpcdhfaaGreatDoor.Cm
/- May a command be; its list: the document's answers. -/
namespace Go.Proofs.YtbchcipjpcdhfaaGreatDoor.Cm
open Go.RowKit Go.Proofs.YtbchcipjpcdhfaaGreatDoor.Dt

theorem rmay_res {c : Cmd} : mayCB c = ((cmdO (listX (writeL c))).isSome && eqB ((cmdO (listX (writeL c))).getD noCmd) c) := by
  unfold mayCB writeX
  exact res_may
theorem write_sexp {w : World} {A : Option Addr} {c : Cmd} {c' : Nat} (hl : Lies 3 SexpR w A (writeL c)) (h1 : (writeL c).length ≤ c') (h2 : c' ≤ maxLen) (h3 : (writeL c).length * 48 ≤ 140737488351232) :
    SexpR w [.int .i8 (listX (writeL c)).kind, .string (listX (writeL c)).text, .slice A (listX (writeL c)).l.length c'] (listX (writeL c)) :=
  list_r hl h1 h2 h3
set_option maxHeartbeats 6400000 in
theorem rmay8_any {W0 w : World} {A1 A2 A3 A4 : Option Addr} {c1 c2 c3 c4 : Nat} {c : Cmd} (h : CmdAt W0 A1 c1 A2 c2 A3 c3 A4 c4 c) (hb0 : Below W0.heap.size W0 w) (hs : CmdSmall c) :
    Calls Tryz.prog 17 #[agC A1 c1 A2 c2 A3 c3 A4 c4 c] w fun e w' => e = .returned (.bool (mayCB c)) ∧ Below w.heap.size w w' := by
  have HC := Lib.hid h
  have HB0 := Lib.hid hb0
  have BX := Lib.hid ((Below.refl w.heap.size w).alloc (Nat.le_refl _) (.cells #[.int .i8 c.kind, .string c.name, .int .i64 c.n, .slice A1 c.l.length c1, .slice A2 c.args.length c2, .slice A3 c.params.length c3, .string c.res, .slice A4 c.terms.length c4] 32))
  have NB := Lib.hid (blk_new w (.cells #[.int .i8 c.kind, .string c.name, .int .i64 c.n, .slice A1 c.l.length c1, .slice A2 c.args.length c2, .slice A3 c.params.length c3, .string c.res, .slice A4 c.terms.length c4] 32))
  have HW := Lib.hid (rwrite_any h (hb0.trans (BX.out.mono hb0.size)) hs)
  have HM := Lib.hid (rmay_res (c := c))
  clear h hb0 hs
  unfold agC at *
  go_enter Tryz.func17, Tryz.ntmps17
  go_upto_region 1 with fail
  generalize w.alloc (.cells #[.int .i8 c.kind, .string c.name, .int .i64 c.n, .slice A1 c.l.length c1, .slice A2 c.args.length c2, .slice A3 c.params.length c3, .string c.res, .slice A4 c.terms.length c4] 32) = w1 at *
  obtain ⟨n0, n1, n2, n3, n4, n5, n6, n7, nf⟩ := eight_cells NB.out
  go_wp2_with fail
  refine HW.out.mono ?_
  rintro e w2 ⟨Aw, cw, ⟨rfl, hw1, hw2, hw3⟩, hr, hb2⟩
  have B2 := Lib.hid (BX.out.trans (hb2.mono BX.out.size))
  have N2 := Lib.hid ((hb2.block _ (lt_of_block NB.out)).trans NB.out)
  have HL2 := Lib.hid (hr _ (Keeps.refl _ _))
  have G1 := Lib.hid hw1
  have G2 := Lib.hid hw2
  have G3 := Lib.hid hw3
  clear hr hb2 hw1 hw2 hw3 n0 n1 n2 n3 n4 n5 n6 n7 nf NB
  go_wp2_with fail
  refine (rlist_any _ _ _ _).mono ?_
  rintro e w2' ⟨rfl, hb2⟩
  have HP := Lib.hid (rparse_cmd_any (write_sexp (HL2.out.on SexpR.lasts hb2) G1.out G2.out G3.out))
  replace HP : Hid (Calls Tryz.prog 9 #[.agg #[.int .i8 3, .string { data := #[] }, .slice Aw (writeL c).length cw]] w2' (CmdRes w2' (cmdO (listX (writeL c))) 30)) := HP
  have B2' := Lib.hid (B2.out.trans (hb2.mono B2.out.size))
  have N2' := Lib.hid ((hb2.block _ (lt_of_block N2.out)).trans N2.out)
  clear hb2 HL2 B2 N2
  generalize cmdO (listX (writeL c)) = o at *
  go_wp2_with fail
  refine HP.out.mono ?_
  rintro e w3 ⟨D1, d1, D2, d2, D3, d3, D4, d4, rfl, hat, hb3⟩
  unfold cmdCells
  have B3 := Lib.hid (B2'.out.trans (hb3.mono B2'.out.size))
  have N3 := Lib.hid ((hb3.block _ (lt_of_block N2'.out)).trans N2'.out)
  have HD := Lib.hid hat
  obtain ⟨n0, n1, n2, n3, n4, n5, n6, n7, nf⟩ := eight_cells N3.out
  clear hat hb3
  generalize hod : o.getD noCmd = d at *
  clear hod
  have B4 := Lib.hid ((Below.refl w3.heap.size w3).alloc (Nat.le_refl _) (.cells #[.int .i8 d.kind, .string d.name, .int .i64 d.n, .slice D1 d.l.length d1, .slice D2 d.args.length d2, .slice D3 d.params.length d3, .string d.res, .slice D4 d.terms.length d4] 32))
  have HS := Lib.hid (rcsame_any (HD.out.on B4.out) (HC.out.on (HB0.out.trans ((B3.out.trans (B4.out.mono B3.out.size)).mono HB0.out.size))))
  unfold agC at *
  have HB4 := Lib.hid (B3.out.trans (B4.out.mono B3.out.size))
  have M4 := Lib.hid (blk_new w3 (.cells #[.int .i8 d.kind, .string d.name, .int .i64 d.n, .slice D1 d.l.length d1, .slice D2 d.args.length d2, .slice D3 d.params.length d3, .string d.res, .slice D4 d.terms.length d4] 32))
  have N4 := Lib.hid ((B4.out.block _ (lt_of_block N3.out)).trans N3.out)
  cases o with
  | none =>
    have HR := Lib.hid (show mayCB c = false from HM.out)
    go_wp2_with fail
    go_ret
    exact ⟨ret_bool HR.out.symm, HB4.out⟩
  | some dd =>
    have HR := Lib.hid (show mayCB c = eqB d c from HM.out.trans (by rw [Option.isSome_some, Bool.true_and]))
    go_upto_region 2 with fail
    generalize w3.alloc (.cells #[.int .i8 d.kind, .string d.name, .int .i64 d.n, .slice D1 d.l.length d1, .slice D2 d.args.length d2, .slice D3 d.params.length d3, .string d.res, .slice D4 d.terms.length d4] 32) = w4 at *
    clear n0 n1 n2 n3 n4 n5 n6 n7 nf
    obtain ⟨n0, n1, n2, n3, n4, n5, n6, n7, nf⟩ := eight_cells N4.out
    obtain ⟨m0, m1, m2, m3, m4, m5, m6, m7, mf⟩ := eight_cells M4.out
    go_wp2_with fail
    refine HS.out.mono ?_
    rintro e w5 ⟨rfl, hb5⟩
    have B5 := Lib.hid (HB4.out.trans (hb5.mono HB4.out.size))
    clear hb5
    go_wp2_with fail
    go_ret
    exact ⟨ret_bool HR.out.symm, B5.out⟩
set_option maxHeartbeats 6400000 in
theorem rsexp_any {W0 w : World} {A1 A2 A3 A4 : Option Addr} {c1 c2 c3 c4 : Nat} {c : Cmd} (h : CmdAt W0 A1 c1 A2 c2 A3 c3 A4 c4 c) (hb0 : Below W0.heap.size W0 w) (hs : CmdSmall c) :
    Calls Tryz.prog 13 #[agC A1 c1 A2 c2 A3 c3 A4 c4 c] w (SexpRes W0.heap.size w c) := by
  have HB0 := Lib.hid hb0
  have HC := Lib.hid h
  have BX := Lib.hid (((Below.refl w.heap.size w).alloc (Nat.le_refl _) (.cells #[.int .i8 c.kind, .string c.name, .int .i64 c.n, .slice A1 c.l.length c1, .slice A2 c.args.length c2, .slice A3 c.params.length c3, .string c.res, .slice A4 c.terms.length c4] 32)).alloc (by simp) (.cells #[.int .i8 0, .string { data := #[] }, .slice none 0 0] 25))
  have NB := Lib.hid (show ((w.alloc (.cells #[.int .i8 c.kind, .string c.name, .int .i64 c.n, .slice A1 c.l.length c1, .slice A2 c.args.length c2, .slice A3 c.params.length c3, .string c.res, .slice A4 c.terms.length c4] 32)).alloc (.cells #[.int .i8 0, .string { data := #[] }, .slice none 0 0] 25)).heap[w.heap.size]? = _ from (Below.heap_alloc _ _ _ (by simp)).trans (blk_new w (.cells #[.int .i8 c.kind, .string c.name, .int .i64 c.n, .slice A1 c.l.length c1, .slice A2 c.args.length c2, .slice A3 c.params.length c3, .string c.res, .slice A4 c.terms.length c4] 32)))
  have RB := Lib.hid (blk_new2 w (.cells #[.int .i8 c.kind, .string c.name, .int .i64 c.n, .slice A1 c.l.length c1, .slice A2 c.args.length c2, .slice A3 c.params.length c3, .string c.res, .slice A4 c.terms.length c4] 32) (.cells #[.int .i8 0, .string { data := #[] }, .slice none 0 0] 25))
  have HMy := Lib.hid (fun W (hW : Below w.heap.size w W) => rmay8_any h (hb0.trans (hW.mono hb0.size)) hs)
  have HWr := Lib.hid (fun W (hW : Below w.heap.size w W) => rwrite_any h (hb0.trans (hW.mono hb0.size)) hs)
  clear h hb0 hs
  unfold agC at *
  go_enter Tryz.func13, Tryz.ntmps13
  go_upto_region 1 with fail
  generalize ((w.alloc (.cells #[.int .i8 c.kind, .string c.name, .int .i64 c.n, .slice A1 c.l.length c1, .slice A2 c.args.length c2, .slice A3 c.params.length c3, .string c.res, .slice A4 c.terms.length c4] 32)).alloc (.cells #[.int .i8 0, .string { data := #[] }, .slice none 0 0] 25)) = w1 at *
  obtain ⟨n0, n1, n2, n3, n4, n5, n6, n7, nf⟩ := eight_cells NB.out
  go_wp2_with fail
  refine (HMy.out _ BX.out).mono ?_
  rintro e w2 ⟨rfl, hb2⟩
  have B2 := Lib.hid (BX.out.trans (hb2.mono BX.out.size))
  have N2 := Lib.hid ((hb2.block _ (lt_of_block NB.out)).trans NB.out)
  have R2 := Lib.hid ((hb2.block _ (lt_of_block RB.out)).trans RB.out)
  clear hb2 n0 n1 n2 n3 n4 n5 n6 n7 nf
  obtain ⟨n0, n1, n2, n3, n4, n5, n6, n7, nf⟩ := eight_cells N2.out
  cases hm : mayCB c with
  | false =>
    obtain ⟨z0, z1, z2, zf⟩ := three_cells R2.out
    have HF := Lib.hid (show SexpRes W0.heap.size w c (.returned (.tuple #[.agg #[.int .i8 0, .string { data := #[] }, .slice none 0 0], .int .i64 2])) (set3 w2 (w.heap.size + 1) (.int .i8 0) (.string { data := #[] }) (.slice none 0 0)) from
      ⟨noSexp, none, 0, ⟨by rw [hm]; rfl, by rw [hm]; rfl⟩, fun W' _ => noSexp_r W', (set3_keeps (S := fun _ => False) (Keeps.of_below B2.out _) (.inr (by omega)) _ _ _).none_below⟩)
    go_wp2_with fail
    exact sexp2_ret (w := set3 w2 (w.heap.size + 1) (.int .i8 0) (.string { data := #[] }) (.slice none 0 0)) Tryz.results13 (three_set R2.out _ _ _) rfl rfl rfl HF.out
  | true =>
    have HMt := Lib.hid hm
    clear hm
    go_wp2_with fail
    refine (HWr.out _ B2.out).mono ?_
    rintro e w3 ⟨Aw, cw, ⟨rfl, hw1, hw2, hw3⟩, hr, hb3⟩
    have B3 := Lib.hid (B2.out.trans (hb3.mono B2.out.size))
    have R3 := Lib.hid ((hb3.block _ (lt_of_block R2.out)).trans R2.out)
    have HR := Lib.hid hr
    have G1 := Lib.hid hw1
    have G2 := Lib.hid hw2
    have G3 := Lib.hid hw3
    have HLt := Lib.hid (lt_of_block R2.out)
    clear hr hb3 hw1 hw2 hw3 n0 n1 n2 n3 n4 n5 n6 n7 nf R2 N2
    go_wp2_with fail
    refine (rlist_any _ _ _ _).mono ?_
    rintro e w4 ⟨rfl, hb4⟩
    have B4 := Lib.hid (B3.out.trans (hb4.mono B3.out.size))
    have R4 := Lib.hid ((hb4.block _ (lt_of_block R3.out)).trans R3.out)
    have HF := Lib.hid (show SexpRes W0.heap.size w c (.returned (.tuple #[.agg #[.int .i8 3, .string { data := #[] }, .slice Aw (writeL c).length cw], .int .i64 0])) (set3 w4 (w.heap.size + 1) (.int .i8 3) (.string { data := #[] }) (.slice Aw (writeL c).length cw)) from by
      refine ⟨writeX c, Aw, cw, ⟨by rw [HMt.out]; rfl, by rw [HMt.out]; rfl⟩, fun W' hW' => ?_, (set3_keeps (S := fun _ => False) (Keeps.of_below B4.out _) (.inr (by omega)) _ _ _).none_below⟩
      have hsz := HB0.out.size
      have hlt := HLt.out
      exact write_sexp (HR.out W' ((set3_keeps (S := fun k => W0.heap.size ≤ k ∧ k < w2.heap.size) (Keeps.of_below hb4 _) (.inl ⟨by omega, hlt⟩) _ _ _).trans_same (hW'.mono (fun k hk => ⟨hk.1, by omega⟩)))) G1.out G2.out G3.out)
    obtain ⟨z0, z1, z2, zf⟩ := three_cells R4.out
    clear hb4
    go_wp2_with fail
    exact sexp2_ret (w := set3 w4 (w.heap.size + 1) (.int .i8 3) (.string { data := #[] }) (.slice Aw (writeL c).length cw)) Tryz.results13 (three_set R4.out _ _ _) rfl rfl rfl HF.out
end Go.Proofs.YtbchcipjpcdhfaaGreatDoor.Cm
/- A command's text: the document's answer. -/
namespace Go.Proofs.YtbchcipjpcdhfaaGreatDoor.Cm
open Go.RowKit Go.Proofs.YtbchcipjpcdhfaaGreatDoor.Dt

set_option maxHeartbeats 3200000 in
theorem rctext_any {W0 w : World} {A1 A2 A3 A4 : Option Addr} {c1 c2 c3 c4 : Nat} {c : Cmd} (h : CmdAt W0 A1 c1 A2 c2 A3 c3 A4 c4 c) (hb0 : Below W0.heap.size W0 w) (hs : CmdSmall c) (hlen : mayCB c = true → (writeX c).textL.length ≤ 140737488355328) :
    Calls Tryz.prog 15 #[agC A1 c1 A2 c2 A3 c3 A4 c4 c] w fun e w' => e = .returned (.tuple #[.string (ctextB c), .int .i64 (ctextE c)]) ∧ Below w.heap.size w w' := by
  have BX := Lib.hid ((Below.refl w.heap.size w).alloc (Nat.le_refl _) (.cells #[.int .i8 c.kind, .string c.name, .int .i64 c.n, .slice A1 c.l.length c1, .slice A2 c.args.length c2, .slice A3 c.params.length c3, .string c.res, .slice A4 c.terms.length c4] 32))
  have NB := Lib.hid (blk_new w (.cells #[.int .i8 c.kind, .string c.name, .int .i64 c.n, .slice A1 c.l.length c1, .slice A2 c.args.length c2, .slice A3 c.params.length c3, .string c.res, .slice A4 c.terms.length c4] 32))
  have HS := Lib.hid (rsexp_any h (hb0.trans (BX.out.mono hb0.size)) hs)
  have HE := Lib.hid (show ctextE c = if mayCB c then (writeX c).textE else 2 from rfl)
  have HT := Lib.hid (show ctextB c = if mayCB c then (writeX c).textB else { data := #[] } from rfl)
  have HL := Lib.hid hlen
  clear h hs hb0 hlen
  unfold agC at *
  go_enter Tryz.func15, Tryz.ntmps15
  go_upto_region 1 with fail
  generalize w.alloc (.cells #[.int .i8 c.kind, .string c.name, .int .i64 c.n, .slice A1 c.l.length c1, .slice A2 c.args.length c2, .slice A3 c.params.length c3, .string c.res, .slice A4 c.terms.length c4] 32) = w1 at *
  obtain ⟨n0, n1, n2, n3, n4, n5, n6, n7, nf⟩ := eight_cells NB.out
  go_wp2_with fail
  refine HS.out.mono ?_
  rintro e w2 ⟨x, A', c', ⟨rfl, hx⟩, hr, hb2⟩
  have B2 := Lib.hid (BX.out.trans (hb2.mono BX.out.size))
  have HR := Lib.hid (hr _ (Keeps.refl _ _))
  have HX := Lib.hid hx
  clear hb2 hr hx n0 n1 n2 n3 n4 n5 n6 n7 nf
  have B3 := Lib.hid (B2.out.alloc B2.out.size (.cells #[.int .i8 x.kind, .string x.text, .slice A' x.l.length c'] 25))
  have Bx := Lib.hid ((Below.refl w2.heap.size w2).alloc (Nat.le_refl _) (.cells #[.int .i8 x.kind, .string x.text, .slice A' x.l.length c'] 25))
  cases hm : mayCB c with
  | false =>
    have HR1 := Lib.hid (show ctextE c = 2 by rw [HE.out, hm]; rfl)
    have HR2 := Lib.hid (show ctextB c = { data := #[] } by rw [HT.out, hm]; rfl)
    clear hm
    go_wp2_with fail
    go_ret2
    exact ⟨pair_str_int ⟨HR2.out.symm, HR1.out.symm⟩, B3.out⟩
  | true =>
    have hx' : x = writeX c := by have := HX.out; rw [hm] at this; exact this
    have HR1 := Lib.hid (show ctextE c = x.textE by rw [HE.out, hm, hx']; rfl)
    have HR2 := Lib.hid (show ctextB c = x.textB by rw [HT.out, hm, hx']; rfl)
    have HTx := Lib.hid (rstext_any (SexpR.lasts _ _ _ _ Bx.out HR.out) (fun _ => by rw [hx']; exact HL.out hm))
    obtain ⟨q0, q1, q2, _⟩ := box_cells w2 (.int .i8 x.kind) (.string x.text) (.slice A' x.l.length c') 25
    clear hm hx'
    go_wp2_with fail
    refine HTx.out.mono ?_
    rintro e w4 ⟨rfl, hb4⟩
    have B4 := Lib.hid (B3.out.trans (hb4.mono B3.out.size))
    clear hb4
    go_wp2_with fail
    go_ret2
    exact ⟨pair_str_int ⟨HR2.out.symm, HR1.out.symm⟩, B4.out⟩
end Go.Proofs.YtbchcipjpcdhfaaGreatDoor.Cm
/- CommandWrites: whether a command may be, its list, its text; two compared. No condition. -/
namespace Go.Proofs.YtbchcipjpcdhfaaGreatDoor.Cm
open Go.RowKit Go.Proofs.YtbchcipjpcdhfaaGreatDoor.Dt

set_option maxRecDepth 100000 in
set_option maxHeartbeats 12800000 in
theorem writes_all {w : World} {a b : Cmd} {A1 A2 A3 A4 B1 B2 B3 B4 : Option Addr} {c1 c2 c3 c4 d1 d2 d3 d4 : Nat} (ha : CmdAt w A1 c1 A2 c2 A3 c3 A4 c4 a) (hb : CmdAt w B1 d1 B2 d2 B3 d3 B4 d4 b) (ht : TabOk w) :
    Calls Tryz.prog 4 #[agC A1 c1 A2 c2 A3 c3 A4 c4 a, agC B1 d1 B2 d2 B3 d3 B4 d4 b] w fun e w' => e = .returned (.bool true) ∧ Below w.heap.size w w' := by
  have HB2 := Lib.hid (Box2.make w a b A1 A2 A3 A4 B1 B2 B3 B4 c1 c2 c3 c4 d1 d2 d3 d4)
  have HA := Lib.hid ha
  have HB := Lib.hid hb
  have HT := Lib.hid ht
  have HW := Lib.hid (fun W (hW : Below w.heap.size w W) => wakes8_any W (ht.on hW))
  have HGa := Lib.hid (fun W (hW : Below w.heap.size w W) => great8_any (ha.on hW))
  have HGb := Lib.hid (fun W (hW : Below w.heap.size w W) => great8_any (hb.on hW))
  have HSm := Lib.hid (fun W (hW : Below w.heap.size w W) => csame_any (ha.on hW) (hb.on hW))
  have HSr := Lib.hid (fun W (hW : Below w.heap.size w W) => rcsame_any (ha.on hW) (hb.on hW))
  clear ha hb ht
  unfold agC at *
  go_enter Tryz.func4, Tryz.ntmps4
  go_upto_region 1 with fail
  generalize ((w.alloc (.cells #[.int .i8 a.kind, .string a.name, .int .i64 a.n, .slice A1 a.l.length c1, .slice A2 a.args.length c2, .slice A3 a.params.length c3, .string a.res, .slice A4 a.terms.length c4] 32)).alloc (.cells #[.int .i8 b.kind, .string b.name, .int .i64 b.n, .slice B1 b.l.length d1, .slice B2 b.args.length d2, .slice B3 b.params.length d3, .string b.res, .slice B4 b.terms.length d4] 32)) = w2 at *
  obtain ⟨n0, n1, n2, n3, n4, n5, n6, n7, nf⟩ := eight_cells HB2.out.n
  go_wp2_with fail
  refine (HGa.out w2 HB2.out.b).mono ?_
  rintro e w3 ⟨⟨ga, rfl, hga⟩, hb3⟩
  have HB3 := Lib.hid (HB2.out.on hb3)
  clear hb3 n0 n1 n2 n3 n4 n5 n6 n7 nf
  cases ga with
  | true =>
    clear hga
    go_wp2_with fail
    refine (HW.out w3 HB3.out.b).mono ?_
    rintro e w4 ⟨rfl, hb4⟩
    have HB4 := Lib.hid (HB3.out.b.trans (hb4.mono HB3.out.b.size))
    clear hb4
    go_wp2_with fail
    go_ret
    exact ⟨rfl, HB4.out⟩
  | false =>
    have HOa := Lib.hid (hga rfl)
    clear hga
    obtain ⟨m0, m1, m2, m3, m4, m5, m6, m7, mf⟩ := eight_cells HB3.out.m
    go_wp2_with fail
    refine (HGb.out w3 HB3.out.b).mono ?_
    rintro e w4 ⟨⟨gb, rfl, hgb⟩, hb4⟩
    have HB4 := Lib.hid (HB3.out.on hb4)
    clear hb4 m0 m1 m2 m3 m4 m5 m6 m7 mf
    cases gb with
    | true =>
      clear hgb
      go_wp2_with fail
      refine (HW.out w4 HB4.out.b).mono ?_
      rintro e w5 ⟨rfl, hb5⟩
      have HB5 := Lib.hid (HB4.out.b.trans (hb5.mono HB4.out.b.size))
      clear hb5
      go_wp2_with fail
      go_ret
      exact ⟨rfl, HB5.out⟩
    | false =>
      clear hgb
      have HTa := Lib.hid (fun W (hW : Below w.heap.size w W) => ctext_any (HA.out.on hW) HOa.out.small (HT.out.on hW) (fun _ => text_short HOa.out (cmdAt_ns HA.out)))
      have HTr := Lib.hid (fun W (hW : Below w.heap.size w W) => rctext_any HA.out hW HOa.out.small (fun _ => text_short HOa.out (cmdAt_ns HA.out)))
      have HXa := Lib.hid (fun W (hW : Below w.heap.size w W) => csexp_any HA.out hW HOa.out.small (HT.out.on hW))
      have HXr := Lib.hid (fun W (hW : Below w.heap.size w W) => rsexp_any HA.out hW HOa.out.small)
      have HMa := Lib.hid (fun W (hW : Below w.heap.size w W) => cmay_any (HA.out.on hW) HOa.out.small (HT.out.on hW))
      have HMr := Lib.hid (fun W (hW : Below w.heap.size w W) => rmay8_any HA.out hW HOa.out.small)
      unfold agC at *
      obtain ⟨n0, n1, n2, n3, n4, n5, n6, n7, nf⟩ := eight_cells HB4.out.n
      go_wp2_with fail
      refine (HXa.out w4 HB4.out.b).mono ?_
      rintro e w7 ⟨x, Ax, cx, ⟨rfl, hx⟩, hxr, hb7⟩
      generalize hg1 : (if mayCB a = true then (0 : Int) else 2) = g1 at *
      have HG1 := Lib.hid hg1
      clear hg1
      have HRx := Lib.hid (hxr _ (Keeps.refl _ _))
      have HXe := Lib.hid hx
      have B7 := Lib.hid ((Below.refl w7.heap.size w7).alloc (Nat.le_refl _) (.cells #[.int .i8 x.kind, .string x.text, .slice Ax x.l.length cx] 25))
      have HB7 := Lib.hid ((HB4.out.on hb7).on B7.out)
      have NX7 := Lib.hid (blk_new w7 (.cells #[.int .i8 x.kind, .string x.text, .slice Ax x.l.length cx] 25))
      have HX7 := Lib.hid (SexpR.lasts _ _ _ _ B7.out HRx.out)
      clear hb7 hxr hx n0 n1 n2 n3 n4 n5 n6 n7 nf
      go_upto_region 4 with fail
      generalize w7.alloc (.cells #[.int .i8 x.kind, .string x.text, .slice Ax x.l.length cx] 25) = w8 at *
      generalize w7.heap.size = n7s at *
      obtain ⟨n0, n1, n2, n3, n4, n5, n6, n7, nf⟩ := eight_cells HB7.out.n
      go_wp2_with fail
      refine (HXr.out w8 HB7.out.b).mono ?_
      rintro e w9 ⟨y, Ay, cy, ⟨rfl, hy⟩, hyr, hb9⟩
      rw [HG1.out]
      obtain rfl : y = x := hy.trans HXe.out.symm
      have HYr := Lib.hid (hyr _ (Keeps.refl _ _))
      have B9 := Lib.hid ((Below.refl w9.heap.size w9).alloc (Nat.le_refl _) (.cells #[.int .i8 y.kind, .string y.text, .slice Ay y.l.length cy] 25))
      have HB9 := Lib.hid ((HB7.out.on hb9).on B9.out)
      have NY9 := Lib.hid (blk_new w9 (.cells #[.int .i8 y.kind, .string y.text, .slice Ay y.l.length cy] 25))
      have NX9 := Lib.hid ((B9.out.block _ (Nat.lt_of_lt_of_le (lt_of_block NX7.out) hb9.size)).trans ((hb9.block _ (lt_of_block NX7.out)).trans NX7.out))
      have HX9 := Lib.hid (SexpR.lasts _ _ _ _ B9.out (SexpR.lasts _ _ _ _ hb9 HX7.out))
      have HY9 := Lib.hid (SexpR.lasts _ _ _ _ B9.out HYr.out)
      clear hb9 hyr hy n0 n1 n2 n3 n4 n5 n6 n7 nf HXe HG1
      go_upto_region 5 with fail
      generalize w9.alloc (.cells #[.int .i8 y.kind, .string y.text, .slice Ay y.l.length cy] 25) = w10 at *
      generalize w9.heap.size = n9s at *
      have HSx := Lib.hid (fun W (hW : Below w10.heap.size w10 W) => rsame_all _ y (Nat.lt_succ_self _) W Ax cx y Ay cy (SexpR.lasts _ _ _ _ hW HX9.out) (SexpR.lasts _ _ _ _ hW HY9.out))
      have hyy : eqB y y = true := eqB_self _
      rw [hyy] at HSx
      clear hyy
      generalize ctextE a = ea at *
      generalize ctextB a = sa at *
      generalize mayCB a = ma at *
      generalize eqB a b = r at *
      obtain ⟨n0, n1, n2, n3, n4, n5, n6, n7, nf⟩ := eight_cells HB9.out.n
      go_wp2_with fail
      refine (HTa.out w10 HB9.out.b).mono ?_
      rintro e w11 ⟨rfl, hb11⟩
      have HB11 := Lib.hid (HB9.out.on hb11)
      have K11 := Lib.hid hb11
      clear hb11 n0 n1 n2 n3 n4 n5 n6 n7 nf
      obtain ⟨n0, n1, n2, n3, n4, n5, n6, n7, nf⟩ := eight_cells HB11.out.n
      go_wp2_with fail
      refine (HTr.out w11 HB11.out.b).mono ?_
      rintro e w12 ⟨rfl, hb12⟩
      have HB12 := Lib.hid (HB11.out.on hb12)
      have K12 := Lib.hid (K11.out.trans (hb12.mono K11.out.size))
      clear hb12 n0 n1 n2 n3 n4 n5 n6 n7 nf
      have HSm := Lib.hid (fun W (hW : Below w12.heap.size w12 W) => HSm.out W (HB12.out.on hW).b)
      have HSr := Lib.hid (fun W (hW : Below w12.heap.size w12 W) => HSr.out W (HB12.out.on hW).b)
      have HMa := Lib.hid (fun W (hW : Below w12.heap.size w12 W) => HMa.out W (HB12.out.on hW).b)
      have HMr := Lib.hid (fun W (hW : Below w12.heap.size w12 W) => HMr.out W (HB12.out.on hW).b)
      have HWk := Lib.hid (fun W (hW : Below w12.heap.size w12 W) => HW.out W (HB12.out.on hW).b)
      have HSx := Lib.hid (fun W (hW : Below w12.heap.size w12 W) => HSx.out W (K12.out.trans (hW.mono K12.out.size)))
      have HLn := Lib.hid (fun W (hW : Below w12.heap.size w12 W) => eight_cells (HB12.out.on hW).n)
      have HLm := Lib.hid (fun W (hW : Below w12.heap.size w12 W) => eight_cells (HB12.out.on hW).m)
      have HLx := Lib.hid (fun W (hW : Below w12.heap.size w12 W) => three_cells (((K12.out.trans (hW.mono K12.out.size)).block _ (lt_of_block NX9.out)).trans NX9.out))
      have HLy := Lib.hid (fun W (hW : Below w12.heap.size w12 W) => three_cells (((K12.out.trans (hW.mono K12.out.size)).block _ (lt_of_block NY9.out)).trans NY9.out))
      clear HTa HTr HXa HXr HX9 HY9 NX9 NY9 K11 HX7 NX7 HYr HRx HOa HA HB HT HGa HGb
      have B0 := Lib.hid (Below.refl w12.heap.size w12).drew
      go_wp2_with fail
      refine wp_region_held_drew (S := fun W => Below w12.heap.size w12 W) (by kernel_rfl) (B0.out) (fun hHeld => ?_)
      refine wpAnyH_take (i := 0) (oi := Oper.mk _ _ _ _ _ _) (v := ?_) rfl (by kernel_rfl) (by kernel_rfl) (by kernel_rfl) (fun _ _ _ h => h) (Or.inl ⟨by rfl, ?_⟩) (by assumption) ?_
      rotate_left
      · (intro w hSw; (try dsimp only at hSw); (obtain ⟨n0, n1, n2, n3, n4, n5, n6, n7, nf⟩ := HLn.out _ hSw; go_simp; try with_reducible rfl))
      try simp only [Act.put, List.setIfInBounds_toArray, List.set_cons_zero, List.set_cons_succ]
      refine wpAnyH_take (i := 2) (oi := Oper.mk _ _ _ _ _ _) (v := ?_) rfl (by kernel_rfl) (by kernel_rfl) (by kernel_rfl) (fun _ _ _ h => h) (Or.inl ⟨by rfl, ?_⟩) (by assumption) ?_
      rotate_left
      · (intro w hSw; (try dsimp only at hSw); (obtain ⟨n0, n1, n2, n3, n4, n5, n6, n7, nf⟩ := HLn.out _ hSw; go_simp; try with_reducible rfl))
      try simp only [Act.put, List.setIfInBounds_toArray, List.set_cons_zero, List.set_cons_succ]
      refine wpAnyH_ready (rs := [1]) (by kernel_rfl) (by simp) ?_
      refine AllReadyH.cons (o := Oper.mk _ _ _ _ _ _) rfl (fun K hK => ?_) AllReadyH.nil
      go_simp
      go_wp2_with (go_at_call 16; refine (HMa.out _ B0.out).mono ?_; rintro e W1 ⟨rfl, hb⟩; have B1 := Lib.hid (B0.out.trans (hb.mono B0.out.size)); clear hb)
      refine hK.out _ _ (B1.out) (fun hHeld => ?_)
      clear hK K
      try simp only [Act.put, List.setIfInBounds_toArray, List.set_cons_zero, List.set_cons_succ]
      refine wpAnyH_ready (rs := [3]) (by kernel_rfl) (by simp) ?_
      refine AllReadyH.cons (o := Oper.mk _ _ _ _ _ _) rfl (fun K hK => ?_) AllReadyH.nil
      go_simp
      go_wp2_with (go_at_call 17; refine (HMr.out _ B1.out).mono ?_; rintro e W2 ⟨rfl, hb⟩; have B2 := Lib.hid (B1.out.trans (hb.mono B1.out.size)); clear hb)
      refine hK.out _ _ (B2.out) (fun hHeld => ?_)
      clear hK K
      try simp only [Act.put, List.setIfInBounds_toArray, List.set_cons_zero, List.set_cons_succ]
      have hmm : (ma == ma) = true := by simp
      refine wpAnyH_take (i := 4) (oi := Oper.mk _ _ _ _ _ _) (v := ?_) rfl (by kernel_rfl) (by kernel_rfl) (by kernel_rfl) (fun _ _ _ h => h) (Or.inl ⟨by rfl, ?_⟩) (by assumption) ?_
      rotate_left
      · (intro w hSw; (try dsimp only at hSw); go_simp; try with_reducible rfl)
      try simp only [Act.put, List.setIfInBounds_toArray, List.set_cons_zero, List.set_cons_succ]
      refine wpAnyH_take (i := 5) (oi := Oper.mk _ _ _ _ _ _) (v := ?_) rfl (by kernel_rfl) (by kernel_rfl) (by kernel_rfl) (fun _ _ _ h => h) (Or.inl ⟨by rfl, ?_⟩) (by assumption) ?_
      rotate_left
      · (intro w hSw; (try dsimp only at hSw); go_simp; try with_reducible rfl)
      try simp only [Act.put, List.setIfInBounds_toArray, List.set_cons_zero, List.set_cons_succ]
      clear hmm
      refine wpAnyH_take (i := 6) (oi := Oper.mk _ _ _ _ _ _) (v := ?_) rfl (by kernel_rfl) (by kernel_rfl) (by kernel_rfl) (fun _ _ _ h => h) (Or.inl ⟨by rfl, ?_⟩) (by assumption) ?_
      rotate_left
      · (intro w hSw; (try dsimp only at hSw); (obtain ⟨n0, n1, n2, nf⟩ := HLx.out _ hSw; go_simp; try with_reducible rfl))
      try simp only [Act.put, List.setIfInBounds_toArray, List.set_cons_zero, List.set_cons_succ]
      refine wpAnyH_take (i := 7) (oi := Oper.mk _ _ _ _ _ _) (v := ?_) rfl (by kernel_rfl) (by kernel_rfl) (by kernel_rfl) (fun _ _ _ h => h) (Or.inl ⟨by rfl, ?_⟩) (by assumption) ?_
      rotate_left
      · (intro w hSw; (try dsimp only at hSw); (obtain ⟨n0, n1, n2, nf⟩ := HLy.out _ hSw; go_simp; try with_reducible rfl))
      try simp only [Act.put, List.setIfInBounds_toArray, List.set_cons_zero, List.set_cons_succ]
      refine wpAnyH_ready (rs := [8]) (by kernel_rfl) (by simp) ?_
      refine AllReadyH.cons (o := Oper.mk _ _ _ _ _ _) rfl (fun K hK => ?_) AllReadyH.nil
      go_simp
      go_wp2_with (go_at_call 18; refine (HSx.out _ B2.out).mono ?_; rintro e W3 ⟨rfl, hb⟩; have B3 := Lib.hid (B2.out.trans (hb.mono B2.out.size)); clear hb)
      refine hK.out _ _ (B3.out) (fun hHeld => ?_)
      clear hK K
      try simp only [Act.put, List.setIfInBounds_toArray, List.set_cons_zero, List.set_cons_succ]
      have hgg : (g1 == g1) = true := by simp
      have hss : (sa.toList == sa.toList) = true := by simp
      have hee : (ea == ea) = true := by simp
      refine wpAnyH_take (i := 9) (oi := Oper.mk _ _ _ _ _ _) (v := ?_) rfl (by kernel_rfl) (by kernel_rfl) (by kernel_rfl) (fun _ _ _ h => h) (Or.inl ⟨by rfl, ?_⟩) (by assumption) ?_
      rotate_left
      · (intro w hSw; (try dsimp only at hSw); go_simp; try with_reducible rfl)
      try simp only [Act.put, List.setIfInBounds_toArray, List.set_cons_zero, List.set_cons_succ]
      refine wpAnyH_take (i := 10) (oi := Oper.mk _ _ _ _ _ _) (v := ?_) rfl (by kernel_rfl) (by kernel_rfl) (by kernel_rfl) (fun _ _ _ h => h) (Or.inl ⟨by rfl, ?_⟩) (by assumption) ?_
      rotate_left
      · (intro w hSw; (try dsimp only at hSw); go_simp; try with_reducible rfl)
      try simp only [Act.put, List.setIfInBounds_toArray, List.set_cons_zero, List.set_cons_succ]
      refine wpAnyH_take (i := 11) (oi := Oper.mk _ _ _ _ _ _) (v := ?_) rfl (by kernel_rfl) (by kernel_rfl) (by kernel_rfl) (fun _ _ _ h => h) (Or.inl ⟨by rfl, ?_⟩) (by assumption) ?_
      rotate_left
      · (intro w hSw; (try dsimp only at hSw); go_simp; try with_reducible rfl)
      try simp only [Act.put, List.setIfInBounds_toArray, List.set_cons_zero, List.set_cons_succ]
      refine wpAnyH_take (i := 12) (oi := Oper.mk _ _ _ _ _ _) (v := ?_) rfl (by kernel_rfl) (by kernel_rfl) (by kernel_rfl) (fun _ _ _ h => h) (Or.inl ⟨by rfl, ?_⟩) (by assumption) ?_
      rotate_left
      · (intro w hSw; (try dsimp only at hSw); go_simp; try with_reducible rfl)
      try simp only [Act.put, List.setIfInBounds_toArray, List.set_cons_zero, List.set_cons_succ]
      refine wpAnyH_take (i := 13) (oi := Oper.mk _ _ _ _ _ _) (v := ?_) rfl (by kernel_rfl) (by kernel_rfl) (by kernel_rfl) (fun _ _ _ h => h) (Or.inl ⟨by rfl, ?_⟩) (by assumption) ?_
      rotate_left
      · (intro w hSw; (try dsimp only at hSw); go_simp; try with_reducible rfl)
      try simp only [Act.put, List.setIfInBounds_toArray, List.set_cons_zero, List.set_cons_succ]
      refine wpAnyH_take (i := 14) (oi := Oper.mk _ _ _ _ _ _) (v := ?_) rfl (by kernel_rfl) (by kernel_rfl) (by kernel_rfl) (fun _ _ _ h => h) (Or.inl ⟨by rfl, ?_⟩) (by assumption) ?_
      rotate_left
      · (intro w hSw; (try dsimp only at hSw); go_simp; try with_reducible rfl)
      try simp only [Act.put, List.setIfInBounds_toArray, List.set_cons_zero, List.set_cons_succ]
      refine wpAnyH_take (i := 15) (oi := Oper.mk _ _ _ _ _ _) (v := ?_) rfl (by kernel_rfl) (by kernel_rfl) (by kernel_rfl) (fun _ _ _ h => h) (Or.inl ⟨by rfl, ?_⟩) (by assumption) ?_
      rotate_left
      · (intro w hSw; (try dsimp only at hSw); go_simp; try with_reducible rfl)
      try simp only [Act.put, List.setIfInBounds_toArray, List.set_cons_zero, List.set_cons_succ]
      refine wpAnyH_take (i := 16) (oi := Oper.mk _ _ _ _ _ _) (v := ?_) rfl (by kernel_rfl) (by kernel_rfl) (by kernel_rfl) (fun _ _ _ h => h) (Or.inl ⟨by rfl, ?_⟩) (by assumption) ?_
      rotate_left
      · (intro w hSw; (try dsimp only at hSw); go_simp; try with_reducible rfl)
      try simp only [Act.put, List.setIfInBounds_toArray, List.set_cons_zero, List.set_cons_succ]
      refine wpAnyH_take (i := 17) (oi := Oper.mk _ _ _ _ _ _) (v := ?_) rfl (by kernel_rfl) (by kernel_rfl) (by kernel_rfl) (fun _ _ _ h => h) (Or.inl ⟨by rfl, ?_⟩) (by assumption) ?_
      rotate_left
      · (intro w hSw; (try dsimp only at hSw); go_simp; try with_reducible rfl)
      try simp only [Act.put, List.setIfInBounds_toArray, List.set_cons_zero, List.set_cons_succ]
      refine wpAnyH_take (i := 18) (oi := Oper.mk _ _ _ _ _ _) (v := ?_) rfl (by kernel_rfl) (by kernel_rfl) (by kernel_rfl) (fun _ _ _ h => h) (Or.inl ⟨by rfl, ?_⟩) (by assumption) ?_
      rotate_left
      · (intro w hSw; (try dsimp only at hSw); go_simp; try with_reducible rfl)
      try simp only [Act.put, List.setIfInBounds_toArray, List.set_cons_zero, List.set_cons_succ]
      refine wpAnyH_take (i := 19) (oi := Oper.mk _ _ _ _ _ _) (v := ?_) rfl (by kernel_rfl) (by kernel_rfl) (by kernel_rfl) (fun _ _ _ h => h) (Or.inl ⟨by rfl, ?_⟩) (by assumption) ?_
      rotate_left
      · (intro w hSw; (try dsimp only at hSw); go_simp; try with_reducible rfl)
      try simp only [Act.put, List.setIfInBounds_toArray, List.set_cons_zero, List.set_cons_succ]
      refine wpAnyH_take (i := 20) (oi := Oper.mk _ _ _ _ _ _) (v := ?_) rfl (by kernel_rfl) (by kernel_rfl) (by kernel_rfl) (fun _ _ _ h => h) (Or.inl ⟨by rfl, ?_⟩) (by assumption) ?_
      rotate_left
      · (intro w hSw; (try dsimp only at hSw); go_simp; try with_reducible rfl)
      try simp only [Act.put, List.setIfInBounds_toArray, List.set_cons_zero, List.set_cons_succ]
      refine wpAnyH_take (i := 21) (oi := Oper.mk _ _ _ _ _ _) (v := ?_) rfl (by kernel_rfl) (by kernel_rfl) (by kernel_rfl) (fun _ _ _ h => h) (Or.inl ⟨by rfl, ?_⟩) (by assumption) ?_
      rotate_left
      · (intro w hSw; (try dsimp only at hSw); go_simp; try with_reducible rfl)
      try simp only [Act.put, List.setIfInBounds_toArray, List.set_cons_zero, List.set_cons_succ]
      refine wpAnyH_take (i := 22) (oi := Oper.mk _ _ _ _ _ _) (v := ?_) rfl (by kernel_rfl) (by kernel_rfl) (by kernel_rfl) (fun _ _ _ h => h) (Or.inl ⟨by rfl, ?_⟩) (by assumption) ?_
      rotate_left
      · (intro w hSw; (try dsimp only at hSw); go_simp; try with_reducible rfl)
      try simp only [Act.put, List.setIfInBounds_toArray, List.set_cons_zero, List.set_cons_succ]
      refine wpAnyH_take (i := 23) (oi := Oper.mk _ _ _ _ _ _) (v := ?_) rfl (by kernel_rfl) (by kernel_rfl) (by kernel_rfl) (fun _ _ _ h => h) (Or.inl ⟨by rfl, ?_⟩) (by assumption) ?_
      rotate_left
      · (intro w hSw; (try dsimp only at hSw); go_simp; try with_reducible rfl)
      try simp only [Act.put, List.setIfInBounds_toArray, List.set_cons_zero, List.set_cons_succ]
      refine wpAnyH_take (i := 24) (oi := Oper.mk _ _ _ _ _ _) (v := ?_) rfl (by kernel_rfl) (by kernel_rfl) (by kernel_rfl) (fun _ _ _ h => h) (Or.inl ⟨by rfl, ?_⟩) (by assumption) ?_
      rotate_left
      · (intro w hSw; (try dsimp only at hSw); go_simp; try with_reducible rfl)
      try simp only [Act.put, List.setIfInBounds_toArray, List.set_cons_zero, List.set_cons_succ]
      refine wpAnyH_take (i := 25) (oi := Oper.mk _ _ _ _ _ _) (v := ?_) rfl (by kernel_rfl) (by kernel_rfl) (by kernel_rfl) (fun _ _ _ h => h) (Or.inl ⟨by rfl, ?_⟩) (by assumption) ?_
      rotate_left
      · (intro w hSw; (try dsimp only at hSw); go_simp; try with_reducible rfl)
      try simp only [Act.put, List.setIfInBounds_toArray, List.set_cons_zero, List.set_cons_succ]
      clear hgg hss hee
      refine wpAnyH_take (i := 26) (oi := Oper.mk _ _ _ _ _ _) (v := ?_) rfl (by kernel_rfl) (by kernel_rfl) (by kernel_rfl) (fun _ _ _ h => h) (Or.inl ⟨by rfl, ?_⟩) (by assumption) ?_
      rotate_left
      · (intro w hSw; (try dsimp only at hSw); (obtain ⟨n0, n1, n2, n3, n4, n5, n6, n7, nf⟩ := HLn.out _ hSw; go_simp; try with_reducible rfl))
      try simp only [Act.put, List.setIfInBounds_toArray, List.set_cons_zero, List.set_cons_succ]
      refine wpAnyH_take (i := 27) (oi := Oper.mk _ _ _ _ _ _) (v := ?_) rfl (by kernel_rfl) (by kernel_rfl) (by kernel_rfl) (fun _ _ _ h => h) (Or.inl ⟨by rfl, ?_⟩) (by assumption) ?_
      rotate_left
      · (intro w hSw; (try dsimp only at hSw); (obtain ⟨n0, n1, n2, n3, n4, n5, n6, n7, nf⟩ := HLm.out _ hSw; go_simp; try with_reducible rfl))
      try simp only [Act.put, List.setIfInBounds_toArray, List.set_cons_zero, List.set_cons_succ]
      refine wpAnyH_take (i := 29) (oi := Oper.mk _ _ _ _ _ _) (v := ?_) rfl (by kernel_rfl) (by kernel_rfl) (by kernel_rfl) (fun _ _ _ h => h) (Or.inl ⟨by rfl, ?_⟩) (by assumption) ?_
      rotate_left
      · (intro w hSw; (try dsimp only at hSw); (obtain ⟨n0, n1, n2, n3, n4, n5, n6, n7, nf⟩ := HLn.out _ hSw; go_simp; try with_reducible rfl))
      try simp only [Act.put, List.setIfInBounds_toArray, List.set_cons_zero, List.set_cons_succ]
      refine wpAnyH_take (i := 30) (oi := Oper.mk _ _ _ _ _ _) (v := ?_) rfl (by kernel_rfl) (by kernel_rfl) (by kernel_rfl) (fun _ _ _ h => h) (Or.inl ⟨by rfl, ?_⟩) (by assumption) ?_
      rotate_left
      · (intro w hSw; (try dsimp only at hSw); (obtain ⟨n0, n1, n2, n3, n4, n5, n6, n7, nf⟩ := HLm.out _ hSw; go_simp; try with_reducible rfl))
      try simp only [Act.put, List.setIfInBounds_toArray, List.set_cons_zero, List.set_cons_succ]
      refine wpAnyH_ready (rs := [28]) (by kernel_rfl) (by simp) ?_
      refine AllReadyH.cons (o := Oper.mk _ _ _ _ _ _) rfl (fun K hK => ?_) AllReadyH.nil
      go_simp
      go_wp2_with (go_at_call 19; refine (HSm.out _ B3.out).mono ?_; rintro e W4 ⟨rfl, hb⟩; have B4 := Lib.hid (B3.out.trans (hb.mono B3.out.size)); clear hb)
      refine hK.out _ _ (B4.out) (fun hHeld => ?_)
      clear hK K
      try simp only [Act.put, List.setIfInBounds_toArray, List.set_cons_zero, List.set_cons_succ]
      refine wpAnyH_ready (rs := [31]) (by kernel_rfl) (by simp) ?_
      refine AllReadyH.cons (o := Oper.mk _ _ _ _ _ _) rfl (fun K hK => ?_) AllReadyH.nil
      go_simp
      go_wp2_with (go_at_call 10; refine (HSr.out _ B4.out).mono ?_; rintro e W5 ⟨rfl, hb⟩; have B5 := Lib.hid (B4.out.trans (hb.mono B4.out.size)); clear hb)
      refine hK.out _ _ (B5.out) (fun hHeld => ?_)
      clear hK K
      try simp only [Act.put, List.setIfInBounds_toArray, List.set_cons_zero, List.set_cons_succ]
      have hrr : (r == r) = true := by simp
      refine wpAnyH_take (i := 32) (oi := Oper.mk _ _ _ _ _ _) (v := ?_) rfl (by kernel_rfl) (by kernel_rfl) (by kernel_rfl) (fun _ _ _ h => h) (Or.inl ⟨by rfl, ?_⟩) (by assumption) ?_
      rotate_left
      · (intro w hSw; (try dsimp only at hSw); go_simp; try with_reducible rfl)
      try simp only [Act.put, List.setIfInBounds_toArray, List.set_cons_zero, List.set_cons_succ]
      refine wpAnyH_take (i := 33) (oi := Oper.mk _ _ _ _ _ _) (v := ?_) rfl (by kernel_rfl) (by kernel_rfl) (by kernel_rfl) (fun _ _ _ h => h) (Or.inl ⟨by rfl, ?_⟩) (by assumption) ?_
      rotate_left
      · (intro w hSw; (try dsimp only at hSw); go_simp; try with_reducible rfl)
      try simp only [Act.put, List.setIfInBounds_toArray, List.set_cons_zero, List.set_cons_succ]
      refine wpAnyH_take (i := 34) (oi := Oper.mk _ _ _ _ _ _) (v := ?_) rfl (by kernel_rfl) (by kernel_rfl) (by kernel_rfl) (fun _ _ _ h => h) (Or.inl ⟨by rfl, ?_⟩) (by assumption) ?_
      rotate_left
      · (intro w hSw; (try dsimp only at hSw); go_simp; try with_reducible rfl)
      try simp only [Act.put, List.setIfInBounds_toArray, List.set_cons_zero, List.set_cons_succ]
      clear hrr
      refine wpAnyH_ready (rs := [35]) (by kernel_rfl) (by simp) ?_
      refine AllReadyH.cons (o := Oper.mk _ _ _ _ _ _) rfl (fun K hK => ?_) AllReadyH.nil
      go_simp
      go_wp2_with (go_at_call 7; refine (HWk.out _ B5.out).mono ?_; rintro e W6 ⟨rfl, hb⟩; have B6 := Lib.hid (B5.out.trans (hb.mono B5.out.size)); clear hb)
      refine hK.out _ _ (B6.out) (fun hHeld => ?_)
      clear hK K
      try simp only [Act.put, List.setIfInBounds_toArray, List.set_cons_zero, List.set_cons_succ]
      refine wpAnyH_take (i := 36) (oi := Oper.mk _ _ _ _ _ _) (v := ?_) rfl (by kernel_rfl) (by kernel_rfl) (by kernel_rfl) (fun _ _ _ h => h) (Or.inl ⟨by rfl, ?_⟩) (by assumption) ?_
      rotate_left
      · (intro w hSw; (try dsimp only at hSw); go_simp; try with_reducible rfl)
      try simp only [Act.put, List.setIfInBounds_toArray, List.set_cons_zero, List.set_cons_succ]
      refine wpAnyH_take (i := 37) (oi := Oper.mk _ _ _ _ _ _) (v := ?_) rfl (by kernel_rfl) (by kernel_rfl) (by kernel_rfl) (fun _ _ _ h => h) (Or.inl ⟨by rfl, ?_⟩) (by assumption) ?_
      rotate_left
      · (intro w hSw; (try dsimp only at hSw); go_simp; try with_reducible rfl)
      try simp only [Act.put, List.setIfInBounds_toArray, List.set_cons_zero, List.set_cons_succ]
      refine wpAnyH_done (by kernel_rfl) ?_ _
      clear hHeld
      have HF := Lib.hid (HB12.out.on B6.out).b
      go_wp2_with fail
      go_ret
      exact ⟨rfl, HF.out⟩
end Go.Proofs.YtbchcipjpcdhfaaGreatDoor.Cm
/- CommandWrites: for any input the law answers true, and each argument reads as before: the tied card. -/
namespace Go.Proofs.YtbchcipjpcdhfaaGreatDoor.commandWrites
open Go.RowKit Go.ChangeShapes Go.WideShapes Go.ChangeAt Go.WideMaps Go.WideElems
open Go.ChangeMaps (setBlock shut_map_nil open_string shut_string keptBut_setBlock frozen?_setBlock heap_setBlock_same)

theorem gTabType : (Tryz.prog.globals[0]?).map (·.type) = some 139 := by kernel_rfl
theorem cellsTab : Tryz.prog.cellsOf 139 = 20 := by kernel_rfl
theorem cellsU64 : Tryz.prog.cellsOf 126 = 1 := by kernel_rfl
theorem tabOk {W : World} (h : laidMetH Tryz.prog Rows.commandWritesRow.laid W) : TabOk W := by
  have h2 := h.filter (fun x => x.1 == "internal/strconv.uint64pow10")
  rw [MakeChecks.laidMetH_plain _ _ _ (by kernel_rfl)] at h2
  exact Lib.tabIs_of_head (rest := []) gTab gTabType Tryz.underlying139 Tryz.underlying126 cellsU64 cellsTab h2
theorem cellsInt : Tryz.prog.cellsOf 3 = 1 := by kernel_rfl

set_option maxRecDepth 100000 in
theorem contract (H : Type) (enc : TypeId × Value → H) (W : World) (base : Nat) (args : Array Value) (ds gs : List (DataW H)) (before : List MemPlace)
    (hval : ∀ (j : Nat) t v, Tryz.f4.params[j]? = some t → args[j]? = some v → Value.okWide Tryz.prog W .any base t v)
    (hW : DataW.Whole enc Tryz.prog Tryz.f4.params.toList Rows.commandWritesSpec.vars false W args.toList ds gs before) (hR : (DataW.weightsEach Tryz.prog (Tryz.f4.params.toList ++ Rows.commandWritesSpec.plain.varTypes Tryz.prog) (ds ++ gs)).all (· ≤ reachBytes) = true) (hL : laidMetH Tryz.prog Rows.commandWritesRow.laid W) :
    Calls Tryz.prog 4 args W fun e W' => ∃ v, e = .returned v ∧ Rows.commandWritesSpec.post enc Tryz.prog Tryz.f4 false true false false W args v W' := by
  have hW' := hW
  obtain ⟨p, q, hA0, hV, rfl, hfz, hnd⟩ := hW
  have hA : DataW.TrodAll enc Tryz.prog W 0 (fun _ => true) true Tryz.f4.params.toList args.toList ds p := hA0
  have hfit : ∀ (j : Nat) t d, Tryz.f4.params.toList[j]? = some t → ds[j]? = some d → Fits Tryz.prog t d := fun j t d h1 h2 => fits_each (fun m hm => of_decide_eq_true (List.all_eq_true.1 hR m hm)) j t d (by rw [List.getElem?_append_left (List.getElem?_eq_some_iff.1 h1).1]; exact h1) (by rw [List.getElem?_append_left (List.getElem?_eq_some_iff.1 h2).1]; exact h2)
  rw [Tryz.params4] at hfit
  rw [Tryz.params4] at hA hval
  obtain ⟨v0, vs0, d0, ds0, p0, q0, hargs, rfl, rfl, h0, r0⟩ := trodAll_cons hA
  obtain ⟨v1, vs1, d1, ds1, p1, q1, rfl, rfl, rfl, h1, r1⟩ := trodAll_cons r0
  obtain ⟨rfl, rfl, rfl⟩ := trodAll_nil r1
  obtain rfl : args = #[v0, v1] := by cases args; simp_all
  obtain ⟨g0, A0_0, c0_0, A0_1, c0_1, A0_2, c0_2, A0_3, c0_3, rfl, hg0⟩ := Dt.open_cmd (hval 0 32 v0 rfl rfl) h0 (hfit 0 32 d0 rfl rfl)
  obtain ⟨g1, A1_0, c1_0, A1_1, c1_1, A1_2, c1_2, A1_3, c1_3, rfl, hg1⟩ := Dt.open_cmd (hval 1 32 v1 rfl rfl) h1 (hfit 1 32 d1 rfl rfl)
  refine (Cm.writes_all (w := W) hg0 hg1  (tabOk hL)).mono fun e W' ⟨he, hb⟩ => ⟨_, he, ?_⟩
  exact law_post laidOut (by kernel_rfl) rfl Tryz.underlying4 rfl rfl hW' hb

noncomputable def laidWorld (os : Os) : World := World.doorLaid Tryz.prog 24 os
theorem laid_met (os : Os) : laidMetH Tryz.prog Rows.commandWritesRow.laid ((laidWorld os).forCall (fun _ _ => 0) ⟨#[], #[.agg #[.int .i8 0, .string ⟨#[]⟩, .int .i64 0, .slice none 0 0, .slice none 0 0, .slice none 0 0, .string ⟨#[]⟩, .slice none 0 0], .agg #[.int .i8 0, .string ⟨#[]⟩, .int .i64 0, .slice none 0 0, .slice none 0 0, .slice none 0 0, .string ⟨#[]⟩, .slice none 0 0]], []⟩).memory :=
  laidMetH_of_parts3 (fuel := 8) (laidMet_of_run' 8 (by kernel_rfl) (by kernel_rfl)) (by kernel_rfl) (by kernel_rfl)
theorem reads (os : Os) {H : Type} (enc : TypeId × Value → H) : ∃ x, DataW.whole enc Tryz.prog ((laidWorld os).forCall (fun _ _ => 0) ⟨#[], #[.agg #[.int .i8 0, .string ⟨#[]⟩, .int .i64 0, .slice none 0 0, .slice none 0 0, .slice none 0 0, .string ⟨#[]⟩, .slice none 0 0], .agg #[.int .i8 0, .string ⟨#[]⟩, .int .i64 0, .slice none 0 0, .slice none 0 0, .slice none 0 0, .string ⟨#[]⟩, .slice none 0 0]], []⟩).memory Tryz.f4.params.toList Rows.commandWritesSpec.vars false #[Value.agg #[.int .i8 0, .string ⟨#[]⟩, .int .i64 0, .slice none 0 0, .slice none 0 0, .slice none 0 0, .string ⟨#[]⟩, .slice none 0 0], .agg #[.int .i8 0, .string ⟨#[]⟩, .int .i64 0, .slice none 0 0, .slice none 0 0, .slice none 0 0, .string ⟨#[]⟩, .slice none 0 0]].toList 8 = some ([.agg [.lit (.int .i8 0), .lit (.string []), .lit (.int .i64 0), .nil, .nil, .nil, .lit (.string []), .nil], .agg [.lit (.int .i8 0), .lit (.string []), .lit (.int .i64 0), .nil, .nil, .nil, .lit (.string []), .nil]], [], x) :=
  ⟨[], by kernel_rfl⟩

set_option maxRecDepth 100000 in
theorem lifted (os : Os) (started : os.Started) (H : Type) (enc : TypeId × Value → H) (F : Stop.Interp) :
    ReturnsInHanded {} Tryz.checked os 4 .any ((OpenSpec.ofChange Rows.commandWritesSpec).preRow enc Tryz.prog Tryz.f4 Rows.commandWritesRow.domain false Rows.commandWritesRow.laid) (((OpenSpec.ofChange Rows.commandWritesSpec).at F).post enc Tryz.prog Tryz.f4 false true false false) := by
  obtain ⟨places, hx⟩ := reads os enc
  refine returnsInHanded_of_row (C := Tryz.checked) (s := OpenSpec.ofChange Rows.commandWritesSpec) own started (by kernel_rfl) Tryz.func4
    (witness_row_at (enc := enc) (C := Tryz.checked) false (laidWorld os) #[.agg #[.int .i8 0, .string ⟨#[]⟩, .int .i64 0, .slice none 0 0, .slice none 0 0, .slice none 0 0, .string ⟨#[]⟩, .slice none 0 0], .agg #[.int .i8 0, .string ⟨#[]⟩, .int .i64 0, .slice none 0 0, .slice none 0 0, .slice none 0 0, .string ⟨#[]⟩, .slice none 0 0]] rfl (by kernel_rfl) (by kernel_rfl) (by kernel_rfl)
      (OpenSpec.preRow_of_cond 8 hx (by kernel_rfl) (fun k hk => by cases hk) (by kernel_rfl) (laid_met os))) ?_
  intro W base args ds gs before hval hW _ _ hR hL _ _
  exact contract H enc W base args ds gs before hval hW hR hL

theorem said : Rows.CommandWritesSaid :=
  OpenClaim.holds_of_cond 4 Tryz.f4 rfl rfl rfl rfl rfl rfl rfl ⟨rfl, rfl, rfl, rfl, rfl⟩ rfl rfl rfl rfl rfl (by kernel_rfl) Tryz.func4 (by kernel_rfl)
    (of_decide_eq_true (by kernel_rfl)) (by unfold Func.isWrapper; first | (rw [if_pos (by decide +kernel)]; kernel_rfl) | (rw [if_neg (by decide +kernel)]; exact ⟨rfl, rfl⟩))
    (fun os started H enc _ F => by rw [OpenClaim.pre_eq_preRow]; exact lifted os started H enc F)

theorem plain (f : FuncId) (fn : Func) (hf : Tryz.pinned.checked.prog.funcNamed "gantry/gantrylaw08.CommandWrites" = some f) (hfn : Tryz.pinned.checked.prog.funcs[f]? = some fn) :
    false = Tryz.pinned.checked.prog.looks [] ∧ ∀ (j : Nat) t, fn.params[j]? = some t → Tryz.pinned.checked.prog.wantsStandIn t = false := by
  obtain rfl : f = 4 := Option.some.inj ((show Tryz.prog.funcNamed "gantry/gantrylaw08.CommandWrites" = some 4 by kernel_rfl).symm.trans hf) |>.symm
  obtain rfl : fn = Tryz.f4 := (Option.some.inj (Tryz.func4.symm.trans hfn)).symm
  refine ⟨by kernel_rfl, fun j t ht => ?_⟩
  have hm := Array.mem_of_getElem? ht
  have hall : (Tryz.f4.params.toList.all fun u => !Tryz.prog.wantsStandIn u) = true := by kernel_rfl
  exact (show Tryz.prog.wantsStandIn t = false by simpa using List.all_eq_true.1 hall t (by simpa using hm))

/-- the card -/
theorem card : Rows.CommandWritesCardSaid :=
  Claim7.holds_tied_plain_at .later [] _ _ _ _ said (fun _ h => by cases h) (by kernel_rfl) (fun _ h => by cases h) commandWrites_row_tie rfl ⟨rfl, rfl⟩ (by kernel_rfl) rfl plain (by kernel_rfl)
end Go.Proofs.YtbchcipjpcdhfaaGreatDoor.commandWrites
