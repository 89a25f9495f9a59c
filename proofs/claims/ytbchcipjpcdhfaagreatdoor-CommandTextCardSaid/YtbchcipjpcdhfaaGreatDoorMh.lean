import Derived.Test.YtbchcipjpcdhfaaGreatDoorMf
import Derived.Test.YtbchcipjpcdhfaaGreatDoorMg
/- merged by wip/merge.py from: CmdBare CmdFun -/
/- The maker of the bare forms. -/
namespace Go.Proofs.YtbchcipjpcdhfaaGreatDoor.Cm
open Go.RowKit Go.Proofs.YtbchcipjpcdhfaaGreatDoor.Dt

def bareW (w : World) (pb : Nat) (k : Int) : World := (w.alloc (.cells #[ptrP pb] 47)).alloc (.cells #[.int .i8 k] 22)
def bareV (n : Nat) : Value := .func (.func 56) #[] #[.pointer (some ⟨n, 0, none⟩), .pointer (some ⟨n + 1, 0, none⟩)]
set_option maxHeartbeats 800000 in
theorem bare_any (w : World) (pb : Nat) (k : Int) :
    Calls Tryz.prog 32 #[ptrP pb, .int .i8 k] w fun e w' => e = .returned (bareV w.heap.size) ∧ w' = bareW w pb k := by
  have hmf : ∀ (fn : Fn) (first cap : Array Value) (w : World), (Instr.makeFunc fn first cap).run Tryz.prog w = .ok (.func fn first cap) w := fun _ _ _ _ => rfl
  unfold ptrP
  go_enter Tryz.func32, Tryz.ntmps32
  go_wp2_with fail
  go_ret
  exact ⟨by simp [bareV], rfl⟩
end Go.Proofs.YtbchcipjpcdhfaaGreatDoor.Cm
/- The form declare-fun. -/
namespace Go.Proofs.YtbchcipjpcdhfaaGreatDoor.Cm
open Go.RowKit Go.Proofs.YtbchcipjpcdhfaaGreatDoor.Dt

theorem eachO_sym : ∀ l : List Sexp, eachO symN l = if l.any noSym then none else some (l.map Sexp.text)
  | [] => rfl
  | y :: l => by
    unfold eachO
    rw [eachO_sym l]
    unfold symN
    rw [List.any_cons]
    by_cases h : y.kind = 0
    · rw [if_pos h, show noSym y = false by unfold noSym; simp [h], Bool.false_or]
      split <;> rfl
    · rw [if_neg h, show noSym y = true by unfold noSym; simp [h], Bool.true_or]
      rfl
theorem namesN_eq (x : Sexp) : namesN x = if x.kind = 3 then (if x.l.any noSym then none else some (x.l.map Sexp.text)) else none := by
  unfold namesN listN
  split
  · rw [Option.bind_some, eachO_sym]
  · rfl
theorem four_of {xs : List Sexp} (h : xs.length = 4) : ∃ a b c d, xs = [a, b, c, d] := by
  match xs, h with
  | [a, b, c, d], _ => exact ⟨a, b, c, d, rfl⟩
theorem funO_not {r : List Sexp} (h : r.length ≠ 3) : funO r = none := by
  unfold funO
  split
  · exact absurd rfl h
  · rfl
theorem strs_flat {w w' : World} {A : Option Addr} {l : List ByteArray} {B : Nat} (h : NewLies 1 StrR B w A l) {S : Nat → Prop} (hk : Keeps S w w') (hS : ∀ b, S b → b < B) : Lies 1 StrR w' A l := (h.keep strR_flat hk hS).lies
theorem fun_made {w' : World} {A : Option Addr} {c : Nat} {xs : List Sexp} {cv : Nat → Value} {b : Bool} (hb : b = (((false || !decide (xs.length = 4)) || decide (xs.length ≤ 1)) || !decide ((partS xs 1).kind = 0)))
    (hl : Lies 1 StrR w' A ((okL (b || decide (xs.length ≤ 2)) (partS xs 2) 0 3).map Sexp.text)) (h1 : (okL (b || decide (xs.length ≤ 2)) (partS xs 2) 0 3).length ≤ c) (h2 : c ≤ maxLen)
    (hs1 : ((partS xs 1).text.size : Int) ≤ 140737488351232) (hs2 : ((partS xs 3).text.size : Int) ≤ 140737488351232)
    (hcv : cells8 cv = [.int .i8 3, .string (partS xs 1).text, .int .i64 0, .slice none 0 0, .slice A (okL (b || decide (xs.length ≤ 2)) (partS xs 2) 0 3).length c, .slice none 0 0, .string (partS xs 3).text, .slice none 0 0]) :
    Made w' cv (((((b || decide (xs.length ≤ 2)) || !sized (partS xs 2) 0 3) || (okL (b || decide (xs.length ≤ 2)) (partS xs 2) 0 3).any noSym) || decide (xs.length ≤ 3)) || !decide ((partS xs 3).kind = 0)) (funO xs.tail) := by
  subst hb
  by_cases h4 : xs.length = 4
  · obtain ⟨y, s, x, t, rfl⟩ := four_of h4
    show Made w' cv _ ((symN s).bind fun a => (namesN x).bind fun l => if l.length ≤ 3 then (symN t).map fun b => { noCmd with kind := 3, name := a, args := l, res := b } else none)
    by_cases hk : s.kind = 0
    · have es : symN s = some s.text := by unfold symN; rw [if_pos hk]
      have e1 : (((false || !decide ([y, s, x, t].length = 4)) || decide ([y, s, x, t].length ≤ 1)) || !decide ((partS [y, s, x, t] 1).kind = 0)) = false := by simp [partS, hk]
      rw [e1] at hl h1 hcv ⊢
      have e2 : (false || decide ([y, s, x, t].length ≤ 2)) = false := by simp
      rw [e2] at hl h1 hcv ⊢
      have e3 : partS [y, s, x, t] 2 = x := rfl
      have e4 : partS [y, s, x, t] 3 = t := rfl
      have e5 : partS [y, s, x, t] 1 = s := rfl
      rw [e3] at hl h1
      rw [e3, e4, e5] at hcv
      rw [e3, e4, Bool.false_or]
      rw [e4] at hs2
      rw [e5] at hs1
      rw [es, Option.bind_some, namesN_eq]
      by_cases h3 : x.kind = 3
      · rw [if_pos h3]
        by_cases hn : x.l.length ≤ 3
        · have hz : sized x 0 3 = true := by unfold sized; simp [h3, hn]
          have ho : okL false x 0 3 = x.l := by unfold okL; rw [hz]; rfl
          rw [ho] at hl h1 hcv ⊢
          rw [hz]
          cases ha : x.l.any noSym with
          | true => show _ = true; simp
          | false =>
            rw [if_neg (by decide), Option.bind_some, if_pos (by simpa using hn)]
            by_cases hk2 : t.kind = 0
            · rw [show symN t = some t.text by unfold symN; rw [if_pos hk2]]
              refine ⟨by simp [hk2], ?_⟩
              rw [hcv]
              refine ⟨none, 0, A, c, none, 0, none, 0, by simp [cmdCells, noCmd], ?_⟩
              exact ⟨.inl rfl, hl, .inl rfl, .inl rfl, Nat.le_refl _, by simpa using h1, Nat.le_refl _, Nat.le_refl _, Nat.zero_le _, h2, Nat.zero_le _, Nat.zero_le _, Nat.zero_le _, (by decide : (Lit.int .i8 3).wf = true), (show I64 0 from ⟨by decide, by decide⟩), hs1, hs2⟩
            · rw [show symN t = none by unfold symN; rw [if_neg hk2]]
              show _ = true; simp [hk2]
        · have hz : sized x 0 3 = false := by unfold sized; simp [hn]
          rw [hz]
          have e : ((if x.l.any noSym = true then none else some (x.l.map Sexp.text)).bind fun l => if l.length ≤ 3 then (symN t).map fun b => ({ noCmd with kind := 3, name := s.text, args := l, res := b } : Cmd) else none) = none := by
            split
            · rfl
            · rw [Option.bind_some, if_neg (by simpa using hn)]
          rw [e]
          show _ = true; simp
      · have hz : sized x 0 3 = false := by unfold sized; simp [h3]
        rw [if_neg h3, hz]
        show _ = true; simp
    · rw [show symN s = none by unfold symN; rw [if_neg hk]]
      show _ = true; simp [partS, hk]
  · rw [funO_not (by rw [List.length_tail]; omega)]
    show _ = true; simp [h4]
set_option maxHeartbeats 3200000 in
theorem fun_any {W0 w : World} {pb : Nat} {A : Option Addr} {c : Nat} {xs : List Sexp} (h : ParB w pb (.slice A xs.length c) zeroV false) (hx : Lies 3 SexpR W0 A xs) (hb : Below W0.heap.size W0 w) (hp : W0.heap.size ≤ pb) :
    Calls Tryz.prog 26 #[ptrP pb] w (FormPost W0.heap.size w pb (.slice A xs.length c) (funO xs.tail)) := by
  have HK := Lib.hid (kind_any h 3 4)
  have HJ := Lib.hid (fun W cv b (hW : ParB W pb (.slice A xs.length c) cv b) (hB : Below W0.heap.size W0 W) k => part_any hW hx hB k)
  have HS := Lib.hid (fun W cv b (hW : ParB W pb (.slice A xs.length c) cv b) A' c' y => symbol_any hW y A' c')
  have HN := Lib.hid (fun W cv b (hW : ParB W pb (.slice A xs.length c) cv b) (hB : Below W0.heap.size W0 W) A' c' y hr => names_any hW y A' c' hr hB hp 0 3)
  have HB := Lib.hid hb
  have HT := Lib.hid (fun k => partS_size hx k)
  have HE := Lib.hid (fun w' A2 c2 cv b hb hl h1 h2 => fun_made (w' := w') (A := A2) (c := c2) (cv := cv) (xs := xs) (b := b) hb hl h1 h2 (partS_size hx 1) (partS_size hx 3))
  clear h hx hb
  unfold ptrP at *
  go_enter Tryz.func26, Tryz.ntmps26
  go_wp2_with fail
  refine HK.out.mono ?_
  rintro e w1 ⟨rfl, h1, k1⟩
  have P1 := Lib.hid h1
  have K1 := Lib.hid k1
  have B1 := Lib.hid (HB.out.trans (keepP_below k1 hp HB.out.size))
  clear h1 k1
  go_wp2_with fail
  refine (HJ.out _ _ _ P1.out B1.out 1).mono ?_
  rintro e w2 ⟨A2, c2, ⟨rfl, r2⟩, h2, k2⟩
  have P2 := Lib.hid h2
  have K2 := Lib.hid (K1.out.trans_same k2)
  clear h2 k2 r2
  go_wp2_with fail
  refine (HS.out _ _ _ P2.out A2 c2 _).mono ?_
  rintro e w3 ⟨rfl, h3, k3⟩
  have P3 := Lib.hid h3
  have K3 := Lib.hid (K2.out.trans_same k3)
  have B3 := Lib.hid (HB.out.trans (keepP_below K3.out hp HB.out.size))
  clear h3 k3
  generalize hbb : (((false || !decide (xs.length = 4)) || decide (xs.length ≤ 1)) || !decide ((partS xs 1).kind = 0)) = b3 at *
  clear hbb
  go_wp2_with fail
  refine (HJ.out _ _ _ P3.out B3.out 2).mono ?_
  rintro e w4 ⟨A4, c4, ⟨rfl, r4⟩, h4, k4⟩
  have P4 := Lib.hid h4
  have K4 := Lib.hid (K3.out.trans_same k4)
  have R4 := Lib.hid r4
  have B4 := Lib.hid (HB.out.trans (keepP_below K4.out hp HB.out.size))
  clear h4 k4 r4
  go_wp2_with fail
  refine (HN.out _ _ _ P4.out B4.out A4 c4 _ R4.out).mono ?_
  rintro e w5 ⟨A5, c5, ⟨rfl, n1, n2⟩, l5, h5, k5⟩
  have L5 := Lib.hid (And.intro l5 (And.intro n1 n2))
  have K5 := Lib.hid (K4.out.trans_same k5)
  have hlt4 := Lib.hid P4.out.lt
  have f2 := h5.free 2
  have d2 := h5.cell 1 (by omega)
  have f5 := h5.free 5
  have d5 := h5.cell 4 (by omega)
  have HP6 := Lib.hid ((h5.setCmd 1 (by omega) (.string (partS xs 1).text)).setCmd 4 (by omega) (.slice A5 (okL (b3 || decide (xs.length ≤ 2)) (partS xs 2) 0 3).length c5))
  have HK6 := Lib.hid (show KeepP pb w5 _ from ((Keeps.refl (fun k => k = pb) w5).setCell (p := ⟨pb, 1 + 1, none⟩) (.inl rfl) (.string (partS xs 1).text)).setCell (p := ⟨pb, 1 + 4, none⟩) (.inl rfl) (.slice A5 (okL (b3 || decide (xs.length ≤ 2)) (partS xs 2) 0 3).length c5))
  have B6 := Lib.hid (HB.out.trans (keepP_below (K5.out.trans_same HK6.out) hp HB.out.size))
  clear h5 k5 l5 n1 n2
  go_wp2_with fail
  refine (HJ.out _ _ _ HP6.out B6.out 3).mono ?_
  rintro e w7 ⟨A7, c7, ⟨rfl, r7⟩, h7, k7⟩
  have P7 := Lib.hid h7
  have K7 := Lib.hid (HK6.out.trans_same k7)
  clear h7 k7 r7 d2 f2 d5 f5
  go_wp2_with fail
  refine (HS.out _ _ _ P7.out A7 c7 _).mono ?_
  rintro e w8 ⟨rfl, h8, k8⟩
  have P8 := Lib.hid h8
  have K8 := Lib.hid (K7.out.trans_same k8)
  have f7 := h8.free 7
  have d7 := h8.cell 6 (by omega)
  clear h8 k8
  go_wp2_with fail
  go_end0
  have KE := K8.out.setCell (p := ⟨pb, 7, none⟩) (.inl rfl) (.string (partS xs 3).text)
  exact ⟨_, _, rfl, P8.out.setCmd 6 (by omega) _, K5.out.trans_same KE, fun W' hW => HE.out W' A5 c5 _ b3 rfl (strs_flat (L5.out.1.keep strR_flat KE (fun j hj => by subst hj; exact hlt4.out)) hW (fun j hj => Nat.lt_trans hj.2 hlt4.out)) L5.out.2.1 L5.out.2.2 rfl⟩
end Go.Proofs.YtbchcipjpcdhfaaGreatDoor.Cm
