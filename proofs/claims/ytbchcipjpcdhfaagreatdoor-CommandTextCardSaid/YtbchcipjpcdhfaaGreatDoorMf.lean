import Derived.Test.YtbchcipjpcdhfaaGreatDoorMe
import Derived.Test.YtbchcipjpcdhfaaGreatDoorBase
import Derived.Maps.AppendAt
import Derived.RegionTactic
import Derived.OwnWalk
import Derived.Test.YtbchcipjpcdhfaaGreatDoorMb
import Derived.WalkSmall
/- merged by wip/merge.py from: CmdForms CmdForms2 CmdParts3 CmdForms3 CmdForms4 CmdForms5 Own2 Grows -/
/- The simple forms: set-logic, push, pop, the bare ones. -/
namespace Go.Proofs.YtbchcipjpcdhfaaGreatDoor.Cm
open Go.RowKit Go.Proofs.YtbchcipjpcdhfaaGreatDoor.Dt

def zeroV : Nat → Value := fun i => match i with
  | 0 => .int .i8 0
  | 1 => .string noS
  | 2 => .int .i64 0
  | 6 => .string noS
  | _ => .slice none 0 0
def cells8 (cv : Nat → Value) : List Value := [cv 0, cv 1, cv 2, cv 3, cv 4, cv 5, cv 6, cv 7]
/-- what a form leaves: its command, or something wrong -/
def Made (w : World) (cv : Nat → Value) (b : Bool) (o : Option Cmd) : Prop := match o with
  | some c => b = false ∧ CmdR w (cells8 cv) c
  | none => b = true
/-- but for the blocks between two places all is as it was -/
def Stays (lo pb : Nat) (w' W' : World) : Prop := Keeps (fun k => lo ≤ k ∧ k < pb) w' W'
theorem stay_below {W0 w' W' : World} {pb : Nat} (hb : Below W0.heap.size W0 w') (h : Stays W0.heap.size pb w' W') : Below W0.heap.size W0 W' := hb.trans (h.below (fun _ hk => hk.1) hb.size)
theorem stay_blk {w' W' : World} {lo pb nb : Nat} {o : Obj} (h : w'.heap[nb]? = some o) (hs : Stays lo pb w' W') (hn : pb ≤ nb) : W'.heap[nb]? = some o := (hs.block nb (lt_of_block h) (fun hk => by omega)).trans h
def FormPost (lo : Nat) (w : World) (pb : Nat) (L : Value) (o : Option Cmd) (e : Ending) (w' : World) : Prop :=
  ∃ cv b, e = .returned (.tuple #[]) ∧ ParB w' pb L cv b ∧ KeepP pb w w' ∧ ∀ W', Stays lo pb w' W' → Made W' cv b o
theorem keepP_below {w w' : World} {pb B : Nat} (h : KeepP pb w w') (hp : B ≤ pb) (hB : B ≤ w.heap.size) : Below B w w' := h.below (fun k e => by subst e; exact hp) hB
theorem cmdR_zero (w : World) (c : Cmd) (hl : c.l = []) (ha : c.args = []) (hp : c.params = []) (ht : c.terms = []) (hk : (Lit.int .i8 c.kind).wf = true) (hn : I64 c.n) (h1 : (c.name.size : Int) ≤ 140737488351232) (h2 : (c.res.size : Int) ≤ 140737488351232) :
    CmdR w [.int .i8 c.kind, .string c.name, .int .i64 c.n, .slice none 0 0, .slice none 0 0, .slice none 0 0, .string c.res, .slice none 0 0] c := by
  refine ⟨none, 0, none, 0, none, 0, none, 0, by unfold cmdCells; rw [hl, ha, hp, ht]; rfl, ?_⟩
  refine ⟨.inl hl, .inl ha, .inl hp, .inl ht, by rw [hl]; exact Nat.le_refl _, by rw [ha]; exact Nat.le_refl _, by rw [hp]; exact Nat.le_refl _, by rw [ht]; exact Nat.le_refl _, Nat.zero_le _, Nat.zero_le _, Nat.zero_le _, Nat.zero_le _, by rw [ht]; exact Nat.zero_le _, hk, hn, h1, h2⟩
theorem partS_size {W : World} {A : Option Addr} {xs : List Sexp} (hx : Lies 3 SexpR W A xs) (k : Nat) : ((partS xs k).text.size : Int) ≤ 140737488351232 := by
  unfold partS
  cases hk : xs[k]? with
  | none => exact (by decide : ((noS.size : Nat) : Int) ≤ 140737488351232)
  | some y =>
    obtain ⟨_, _, vs, _, _, _, _, hr⟩ := hx.at' hk
    obtain ⟨_, _, _, _, _, _, h1, _⟩ := hr.open'
    exact h1
theorem two_of {xs : List Sexp} (h : xs.length = 2) : ∃ a b, xs = [a, b] := by
  match xs, h with
  | [a, b], _ => exact ⟨a, b, rfl⟩
theorem oneO_not {r : List Sexp} {f : Sexp → Option Cmd} (h : r.length ≠ 1) : oneO r f = none := by
  unfold oneO
  split
  · exact absurd rfl h
  · rfl
def oSym (k : Int) (x : Sexp) : Option Cmd := (symN x).map fun t => { noCmd with kind := k, name := t }
def oNum (k : Int) (x : Sexp) : Option Cmd := (smallN x 8).map fun n => { noCmd with kind := k, n := n }
set_option maxHeartbeats 1600000 in
theorem logic_any {W0 w : World} {pb : Nat} {A : Option Addr} {c : Nat} {xs : List Sexp} (h : ParB w pb (.slice A xs.length c) zeroV false) (hx : Lies 3 SexpR W0 A xs) (hb : Below W0.heap.size W0 w) (hp : W0.heap.size ≤ pb) :
    Calls Tryz.prog 23 #[ptrP pb] w (FormPost W0.heap.size w pb (.slice A xs.length c) (oneO xs.tail (oSym 0))) := by
  have HK := Lib.hid (kind_any h 0 2)
  have HJ := Lib.hid (fun W cv b (hW : ParB W pb (.slice A xs.length c) cv b) (hB : Below W0.heap.size W0 W) => part_any hW hx hB 1)
  have HS := Lib.hid (fun W cv b (hW : ParB W pb (.slice A xs.length c) cv b) A' c' => symbol_any hW (partS xs 1) A' c')
  have HB := Lib.hid hb
  have HT := Lib.hid (partS_size hx 1)
  have HE := Lib.hid (show ∀ w' cv, cells8 cv = [.int .i8 0, .string (partS xs 1).text, .int .i64 0, .slice none 0 0, .slice none 0 0, .slice none 0 0, .string noS, .slice none 0 0] → Made w' cv (((false || !decide (xs.length = 2)) || decide (xs.length ≤ 1)) || !decide ((partS xs 1).kind = 0)) (oneO xs.tail (oSym 0)) from fun w' cv hcv => by
    by_cases h2 : xs.length = 2
    · obtain ⟨y, x, rfl⟩ := two_of h2
      show Made w' cv _ (oSym 0 x)
      unfold oSym symN
      by_cases hk : x.kind = 0
      · rw [if_pos hk]
        refine ⟨by simp [partS, hk], ?_⟩
        rw [hcv]
        exact cmdR_zero w' { noCmd with kind := 0, name := x.text } rfl rfl rfl rfl (show (Lit.int .i8 0).wf = true by decide) (show I64 0 from ⟨by decide, by decide⟩) HT.out (show ((noS.size : Nat) : Int) ≤ 140737488351232 by decide)
      · rw [if_neg hk]
        show _ = true
        simp [partS, hk]
    · rw [oneO_not (by rw [List.length_tail]; omega)]
      show _ = true
      simp [h2])
  clear h hx hb
  unfold ptrP at *
  go_enter Tryz.func23, Tryz.ntmps23
  go_wp2_with fail
  refine HK.out.mono ?_
  rintro e w1 ⟨rfl, h1, k1⟩
  have P1 := Lib.hid h1
  have K1 := Lib.hid k1
  have B1 := Lib.hid (HB.out.trans (keepP_below k1 hp HB.out.size))
  clear h1 k1
  go_wp2_with fail
  refine (HJ.out _ _ _ P1.out B1.out).mono ?_
  rintro e w2 ⟨A2, c2, ⟨rfl, r2⟩, h2, k2⟩
  have P2 := Lib.hid h2
  have K2 := Lib.hid (K1.out.trans_same k2)
  clear h2 k2 r2
  go_wp2_with fail
  refine (HS.out _ _ _ P2.out A2 c2).mono ?_
  rintro e w3 ⟨rfl, h3, k3⟩
  have P3 := Lib.hid h3
  have K3 := Lib.hid (K2.out.trans_same k3)
  have f2 := h3.free 2
  have d2 := h3.cell 1 (by omega)
  clear h3 k3
  go_wp2_with fail
  go_end0
  exact ⟨_, _, rfl, P3.out.setCmd 1 (by omega) _, K3.out.setCell (.inl rfl) _, fun W' _ => HE.out W' _ rfl⟩
set_option maxHeartbeats 1600000 in
theorem push_raw {W0 w : World} {pb : Nat} {A : Option Addr} {c : Nat} {xs : List Sexp} (h : ParB w pb (.slice A xs.length c) zeroV false) (hx : Lies 3 SexpR W0 A xs) (hb : Below W0.heap.size W0 w) (hp : W0.heap.size ≤ pb) :
    Calls Tryz.prog 29 #[ptrP pb] w fun e w' => e = .returned (.tuple #[]) ∧ ParB w' pb (.slice A xs.length c) (upv (upv zeroV 0 (.int .i8 6)) 2 (.int .i64 (parseV (Lx.bs (partS xs 1).text)))) (((false || !decide (xs.length = 2)) || decide (xs.length ≤ 1)) || (smallN (partS xs 1) 8).isNone) ∧ KeepP pb w w' := by
  have HK := Lib.hid (kind_any h 6 2)
  have HJ := Lib.hid (fun W cv b (hW : ParB W pb (.slice A xs.length c) cv b) (hB : Below W0.heap.size W0 W) => part_any hW hx hB 1)
  have HS := Lib.hid (fun W cv b (hW : ParB W pb (.slice A xs.length c) cv b) A' c' => number_any hW (partS xs 1) A' c' (partS_size hx 1) 8)
  have HB := Lib.hid hb
  clear h hx hb
  unfold ptrP at *
  go_enter Tryz.func29, Tryz.ntmps29
  go_wp2_with fail
  refine HK.out.mono ?_
  rintro e w1 ⟨rfl, h1, k1⟩
  have P1 := Lib.hid h1
  have K1 := Lib.hid k1
  have B1 := Lib.hid (HB.out.trans (keepP_below k1 hp HB.out.size))
  clear h1 k1
  go_wp2_with fail
  refine (HJ.out _ _ _ P1.out B1.out).mono ?_
  rintro e w2 ⟨A2, c2, ⟨rfl, r2⟩, h2, k2⟩
  have P2 := Lib.hid h2
  have K2 := Lib.hid (K1.out.trans_same k2)
  clear h2 k2 r2
  go_wp2_with fail
  refine (HS.out _ _ _ P2.out A2 c2).mono ?_
  rintro e w3 ⟨rfl, h3, k3⟩
  have P3 := Lib.hid h3
  have K3 := Lib.hid (K2.out.trans_same k3)
  have f2 := h3.free 3
  have d2 := h3.cell 2 (by omega)
  clear h3 k3
  go_wp2_with fail
  go_end0
  exact ⟨rfl, P3.out.setCmd 2 (by omega) _, K3.out.setCell (.inl rfl) _⟩
end Go.Proofs.YtbchcipjpcdhfaaGreatDoor.Cm
/- The simple forms: push, pop, the bare ones, declare-sort. -/
namespace Go.Proofs.YtbchcipjpcdhfaaGreatDoor.Cm
open Go.RowKit Go.Proofs.YtbchcipjpcdhfaaGreatDoor.Dt

theorem small_some {x : Sexp} {m n : Int} (h : smallN x m = some n) : n = parseV (Lx.bs x.text) ∧ 0 ≤ n ∧ n ≤ m := by
  unfold smallN at h
  split at h
  · rename_i hc
    obtain rfl := Option.some.inj h
    have := (text_of_parse hc.2.1).1
    exact ⟨rfl, this, hc.2.2⟩
  · cases h
theorem num_made {w' : World} {xs : List Sexp} {cv : Nat → Value} (k : Int) (hk : (Lit.int .i8 k).wf = true) (hcv : cells8 cv = [.int .i8 k, .string noS, .int .i64 (parseV (Lx.bs (partS xs 1).text)), .slice none 0 0, .slice none 0 0, .slice none 0 0, .string noS, .slice none 0 0]) :
    Made w' cv (((false || !decide (xs.length = 2)) || decide (xs.length ≤ 1)) || (smallN (partS xs 1) 8).isNone) (oneO xs.tail (oNum k)) := by
  by_cases h2 : xs.length = 2
  · obtain ⟨y, x, rfl⟩ := two_of h2
    show Made w' cv _ (oNum k x)
    unfold oNum
    cases hs : smallN x 8 with
    | none =>
      show _ = true
      simp [partS, hs]
    | some n =>
      obtain ⟨e, h0, h8⟩ := small_some hs
      refine ⟨by simp [partS, hs], ?_⟩
      rw [hcv, show parseV (Lx.bs (partS [y, x] 1).text) = n from e.symm]
      exact cmdR_zero w' { noCmd with kind := k, n := n } rfl rfl rfl rfl hk (show I64 n from ⟨by omega, by omega⟩) (show ((noS.size : Nat) : Int) ≤ 140737488351232 by decide) (show ((noS.size : Nat) : Int) ≤ 140737488351232 by decide)
  · rw [oneO_not (by rw [List.length_tail]; omega)]
    show _ = true
    simp [h2]
theorem push_any {W0 w : World} {pb : Nat} {A : Option Addr} {c : Nat} {xs : List Sexp} (h : ParB w pb (.slice A xs.length c) zeroV false) (hx : Lies 3 SexpR W0 A xs) (hb : Below W0.heap.size W0 w) (hp : W0.heap.size ≤ pb) :
    Calls Tryz.prog 29 #[ptrP pb] w (FormPost W0.heap.size w pb (.slice A xs.length c) (oneO xs.tail (oNum 6))) := by
  refine (push_raw h hx hb hp).mono ?_
  rintro e w1 ⟨rfl, h1, k1⟩
  exact ⟨_, _, rfl, h1, k1, fun _ _ => num_made 6 (by decide) rfl⟩
set_option maxHeartbeats 800000 in
theorem pop_any {W0 w : World} {pb : Nat} {A : Option Addr} {c : Nat} {xs : List Sexp} (h : ParB w pb (.slice A xs.length c) zeroV false) (hx : Lies 3 SexpR W0 A xs) (hb : Below W0.heap.size W0 w) (hp : W0.heap.size ≤ pb) :
    Calls Tryz.prog 30 #[ptrP pb] w (FormPost W0.heap.size w pb (.slice A xs.length c) (oneO xs.tail (oNum 7))) := by
  have HR := Lib.hid (push_raw h hx hb hp)
  have HE := Lib.hid (fun w' cv => num_made (w' := w') (xs := xs) (cv := cv) 7 (by decide))
  clear h hx hb
  unfold ptrP at *
  go_enter Tryz.func30, Tryz.ntmps30
  go_wp2_with fail
  refine HR.out.mono ?_
  rintro e w1 ⟨rfl, h1, k1⟩
  have P1 := Lib.hid h1
  have K1 := Lib.hid k1
  have f1 := h1.free 1
  have d1 := h1.cell 0 (by omega)
  rw [Nat.add_zero] at d1
  clear h1 k1
  go_wp2_with fail
  go_end0
  exact ⟨_, _, rfl, P1.out.setCmd 0 (by omega) _, K1.out.setCell (.inl rfl) _, fun W' _ => HE.out W' _ rfl⟩
theorem bareO_not {r : List Sexp} {k : Int} (h : r.length ≠ 0) : bareO r k = none := by
  unfold bareO
  split
  · exact absurd rfl h
  · rfl
set_option maxHeartbeats 800000 in
theorem bare1_any {lo : Nat} {w : World} {pb : Nat} {A : Option Addr} {c q1 q2 : Nat} {xs : List Sexp} (h : ParB w pb (.slice A xs.length c) zeroV false) (k : Int) (hk : (Lit.int .i8 k).wf = true) (hq1 : w.cell? ⟨q1, 0, none⟩ = some (ptrP pb)) (hq2 : w.cell? ⟨q2, 0, none⟩ = some (.int .i8 k)) (h0 : 0 < xs.length) :
    Calls Tryz.prog 56 #[.pointer (some ⟨q1, 0, none⟩), .pointer (some ⟨q2, 0, none⟩)] w (FormPost lo w pb (.slice A xs.length c) (bareO xs.tail k)) := by
  have HK := Lib.hid (kind_any h k 1)
  have HE := Lib.hid (show ∀ w' cv, cells8 cv = [.int .i8 k, .string noS, .int .i64 0, .slice none 0 0, .slice none 0 0, .slice none 0 0, .string noS, .slice none 0 0] → Made w' cv (false || !decide (xs.length = 1)) (bareO xs.tail k) from fun w' cv hcv => by
    by_cases h2 : xs.length = 1
    · have e : xs.tail = [] := List.length_eq_zero_iff.1 (by rw [List.length_tail]; omega)
      rw [e]
      refine ⟨by simp [h2], ?_⟩
      rw [hcv]
      exact cmdR_zero w' { noCmd with kind := k } rfl rfl rfl rfl hk (show I64 0 from ⟨by decide, by decide⟩) (show ((noS.size : Nat) : Int) ≤ 140737488351232 by decide) (show ((noS.size : Nat) : Int) ≤ 140737488351232 by decide)
    · rw [bareO_not (by rw [List.length_tail]; omega)]
      show _ = true
      simp [h2])
  clear h h0
  unfold ptrP at *
  go_enter Tryz.func56, Tryz.ntmps56
  go_wp2_with fail
  refine HK.out.mono ?_
  rintro e w1 ⟨rfl, h1, k1⟩
  have P1 := Lib.hid h1
  have K1 := Lib.hid k1
  clear h1 k1
  go_wp2_with fail
  go_end0
  exact ⟨_, _, rfl, P1.out, K1.out, fun W' _ => HE.out W' _ rfl⟩
end Go.Proofs.YtbchcipjpcdhfaaGreatDoor.Cm
/- The reader's list. -/
namespace Go.Proofs.YtbchcipjpcdhfaaGreatDoor.Cm
open Go.RowKit Go.Proofs.YtbchcipjpcdhfaaGreatDoor.Dt

/-- a list of so many parts -/
def sized (x : Sexp) (lo hi : Nat) : Bool := decide (x.kind = 3) && (decide (lo ≤ x.l.length) && decide (x.l.length ≤ hi))
set_option maxHeartbeats 1600000 in
theorem list_any {w : World} {pb : Nat} {L : Value} {cv : Nat → Value} {b : Bool} (h : ParB w pb L cv b) (x : Sexp) (A : Option Addr) (c : Nat) (lo hi : Nat) (_hn : (x.l.length : Int) ≤ 9223372036854775807) :
    Calls Tryz.prog 54 #[ptrP pb, agS x A c, .int .i64 lo, .int .i64 hi] w fun e w' => e = .returned (if b || !sized x lo hi then .slice none 0 0 else .slice A x.l.length c) ∧ ParB w' pb L cv (b || !sized x lo hi) ∧ KeepP pb w w' := by
  have HJ := Lib.hid (fun W (hW : Below w.heap.size w W) q => is_any (h.below hW) q)
  have HL := Lib.hid h.lt
  unfold ptrP agS sized at *
  have hk2 : (x.kind == 3) = decide (x.kind = 3) := rfl
  generalize x.text = t at *
  generalize x.l.length = n at *
  by_cases h3 : x.kind = 3
  · rw [h3]
    rw [decide_eq_true (rfl : (3 : Int) = 3), Bool.true_and]
    clear hk2 h3 h
    by_cases h4 : lo ≤ n
    · rw [decide_eq_true h4, Bool.true_and]
      have h4' : ((n : Int) ≥ (lo : Int)) := by omega
      have h4b : ((lo : Int) ≤ (n : Int)) := by omega
      by_cases h5 : n ≤ hi
      · have h5' : ((n : Int) ≤ (hi : Int)) := by omega
        rw [decide_eq_true h5, Bool.not_true, Bool.or_false]
        go_enter Tryz.func54, Tryz.ntmps54
        go_wp2_with fail
        refine (HJ.out _ ((Below.refl _ _).alloc (Nat.le_refl _) _) true).mono ?_
        rintro e w1 ⟨rfl, h1, h2⟩
        have HC := Lib.hid (show w1.cell? ⟨w.heap.size, 2, none⟩ = some (.slice A n c) from (h2.cell (by simp) (by have := HL.out; show ¬ w.heap.size = pb; omega)).trans (box_cells w _ _ _ _).2.2.1)
        have H2 := Lib.hid (((Keeps.refl (fun k => k = pb) w).alloc _).trans_same h2)
        have hc := HC.out
        clear h2
        have H1 := Lib.hid (show ParB w1 pb L cv b by simpa using h1)
        clear h1
        have hb9 := H1.out.badc
        cases b
        all_goals
          go_wp2_with fail
          go_ret
          exact ⟨rfl, H1.out, H2.out⟩
      · have h5' : decide ((n : Int) ≤ (hi : Int)) = false := decide_eq_false (by omega)
        rw [decide_eq_false h5, Bool.not_false, Bool.or_true]
        go_enter Tryz.func54, Tryz.ntmps54
        go_wp2_with fail
        refine (HJ.out _ ((Below.refl _ _).alloc (Nat.le_refl _) _) false).mono ?_
        rintro e w1 ⟨rfl, h1, h2⟩
        have HC := Lib.hid (show w1.cell? ⟨w.heap.size, 2, none⟩ = some (.slice A n c) from (h2.cell (by simp) (by have := HL.out; show ¬ w.heap.size = pb; omega)).trans (box_cells w _ _ _ _).2.2.1)
        have H2 := Lib.hid (((Keeps.refl (fun k => k = pb) w).alloc _).trans_same h2)
        have hc := HC.out
        clear h2
        have H1 := Lib.hid (show ParB w1 pb L cv true by simpa using h1)
        clear h1
        have hb9 := H1.out.badc
        go_wp2_with fail
        go_ret
        exact ⟨rfl, H1.out, H2.out⟩
    · rw [decide_eq_false h4, Bool.false_and, Bool.not_false, Bool.or_true]
      have h4' : decide ((lo : Int) ≤ (n : Int)) = false := decide_eq_false (by omega)
      have h4b : decide ((n : Int) ≥ (lo : Int)) = false := decide_eq_false (by omega)
      go_enter Tryz.func54, Tryz.ntmps54
      go_wp2_with fail
      refine (HJ.out _ ((Below.refl _ _).alloc (Nat.le_refl _) _) false).mono ?_
      rintro e w1 ⟨rfl, h1, h2⟩
      replace h1 : ParB w1 pb L cv true := by simpa using h1
      have H1 := Lib.hid h1
      have H2 := Lib.hid (((Keeps.refl (fun k => k = pb) w).alloc _).trans_same h2)
      clear h1 h2
      have hb9 := H1.out.badc
      go_wp2_with fail
      go_ret
      exact ⟨rfl, H1.out, H2.out⟩
  · have h3' : (x.kind == 3) = false := beq_eq_false_iff_ne.2 h3
    rw [decide_eq_false h3, Bool.false_and, Bool.not_false, Bool.or_true]
    generalize x.kind = k at *
    clear h hk2
    go_enter Tryz.func54, Tryz.ntmps54
    go_wp2_with fail
    refine (HJ.out _ ((Below.refl _ _).alloc (Nat.le_refl _) _) false).mono ?_
    rintro e w1 ⟨rfl, h1, h2⟩
    replace h1 : ParB w1 pb L cv true := by simpa using h1
    have H1 := Lib.hid h1
    have H2 := Lib.hid (((Keeps.refl (fun k => k = pb) w).alloc _).trans_same h2)
    clear h1 h2
    have hb9 := H1.out.badc
    go_wp2_with fail
    go_ret
    exact ⟨rfl, H1.out, H2.out⟩
end Go.Proofs.YtbchcipjpcdhfaaGreatDoor.Cm
/- The forms declare-sort and get-value. -/
namespace Go.Proofs.YtbchcipjpcdhfaaGreatDoor.Cm
open Go.RowKit Go.Proofs.YtbchcipjpcdhfaaGreatDoor.Dt

theorem three_of {xs : List Sexp} (h : xs.length = 3) : ∃ a b c, xs = [a, b, c] := by
  match xs, h with
  | [a, b, c], _ => exact ⟨a, b, c, rfl⟩
theorem sort_made {W0 w' : World} {A : Option Addr} {xs : List Sexp} {cv : Nat → Value} (hx : Lies 3 SexpR W0 A xs) (hcv : cells8 cv = [.int .i8 2, .string (partS xs 1).text, .int .i64 0, .slice none 0 0, .slice none 0 0, .slice none 0 0, .string noS, .slice none 0 0]) :
    Made w' cv (((((false || !decide (xs.length = 3)) || decide (xs.length ≤ 1)) || !decide ((partS xs 1).kind = 0)) || decide (xs.length ≤ 2)) || (smallN (partS xs 2) 0).isNone) (sortO xs.tail) := by
  by_cases h3 : xs.length = 3
  · have ht := partS_size hx 1
    obtain ⟨y, s, x, rfl⟩ := three_of h3
    show Made w' cv _ ((symN s).bind fun t => (smallN x 0).map fun _ => { noCmd with kind := 2, name := t })
    unfold symN
    by_cases hk : s.kind = 0
    · rw [if_pos hk]
      cases hs : smallN x 0 with
      | none =>
        show _ = true
        simp [partS, hs]
      | some n =>
        refine ⟨by simp [partS, hs, hk], ?_⟩
        rw [hcv]
        exact cmdR_zero w' { noCmd with kind := 2, name := s.text } rfl rfl rfl rfl (show (Lit.int .i8 2).wf = true by decide) (show I64 0 from ⟨by decide, by decide⟩) ht (show ((noS.size : Nat) : Int) ≤ 140737488351232 by decide)
    · rw [if_neg hk]
      show _ = true
      simp [partS, hk]
  · have e : sortO xs.tail = none := by
      unfold sortO
      split
      · rename_i he
        exact absurd (by have := congrArg List.length he; rw [List.length_tail] at this; simp at this; omega) h3
      · rfl
    rw [e]
    show _ = true
    simp [h3]
set_option maxHeartbeats 1600000 in
theorem sort_any {W0 w : World} {pb : Nat} {A : Option Addr} {c : Nat} {xs : List Sexp} (h : ParB w pb (.slice A xs.length c) zeroV false) (hx : Lies 3 SexpR W0 A xs) (hb : Below W0.heap.size W0 w) (hp : W0.heap.size ≤ pb) :
    Calls Tryz.prog 25 #[ptrP pb] w (FormPost W0.heap.size w pb (.slice A xs.length c) (sortO xs.tail)) := by
  have HK := Lib.hid (kind_any h 2 3)
  have HJ := Lib.hid (fun W cv b (hW : ParB W pb (.slice A xs.length c) cv b) (hB : Below W0.heap.size W0 W) => part_any hW hx hB 1)
  have HJ2 := Lib.hid (fun W cv b (hW : ParB W pb (.slice A xs.length c) cv b) (hB : Below W0.heap.size W0 W) => part_any hW hx hB 2)
  have HS := Lib.hid (fun W cv b (hW : ParB W pb (.slice A xs.length c) cv b) A' c' => symbol_any hW (partS xs 1) A' c')
  have HN := Lib.hid (fun W cv b (hW : ParB W pb (.slice A xs.length c) cv b) A' c' => number_any hW (partS xs 2) A' c' (partS_size hx 2) 0)
  have HB := Lib.hid hb
  have HE := Lib.hid (fun w' cv => sort_made (w' := w') (cv := cv) hx)
  clear h hx hb
  unfold ptrP at *
  go_enter Tryz.func25, Tryz.ntmps25
  go_wp2_with fail
  refine HK.out.mono ?_
  rintro e w1 ⟨rfl, h1, k1⟩
  have P1 := Lib.hid h1
  have K1 := Lib.hid k1
  have B1 := Lib.hid (HB.out.trans (keepP_below k1 hp HB.out.size))
  clear h1 k1
  go_wp2_with fail
  refine (HJ.out _ _ _ P1.out B1.out).mono ?_
  rintro e w2 ⟨A2, c2, ⟨rfl, r2⟩, h2, k2⟩
  have P2 := Lib.hid h2
  have K2 := Lib.hid (K1.out.trans_same k2)
  clear h2 k2 r2
  go_wp2_with fail
  refine (HS.out _ _ _ P2.out A2 c2).mono ?_
  rintro e w3 ⟨rfl, h3, k3⟩
  have P3 := Lib.hid (show ParB (w3.setCell ⟨pb, 2, none⟩ (.string (partS xs 1).text)) pb _ _ _ from h3.setCmd 1 (by omega) _)
  have K3 := Lib.hid (show KeepP pb w (w3.setCell ⟨pb, 2, none⟩ (.string (partS xs 1).text)) from (K2.out.trans_same k3).setCell (.inl rfl) _)
  have f2 := h3.free 2
  have d2 := h3.cell 1 (by omega)
  clear h3 k3
  go_upto_region 2 with fail
  generalize w3.setCell ⟨pb, 2, none⟩ (.string (partS xs 1).text) = w4 at *
  have B4 := Lib.hid (HB.out.trans (keepP_below K3.out hp HB.out.size))
  go_wp2_with fail
  refine (HJ2.out _ _ _ P3.out B4.out).mono ?_
  rintro e w5 ⟨A5, c5, ⟨rfl, r5⟩, h5, k5⟩
  have P5 := Lib.hid h5
  have K5 := Lib.hid (K3.out.trans_same k5)
  clear h5 k5 r5
  go_wp2_with fail
  refine (HN.out _ _ _ P5.out A5 c5).mono ?_
  rintro e w6 ⟨rfl, h6, k6⟩
  have P6 := Lib.hid h6
  have K6 := Lib.hid (K5.out.trans_same k6)
  clear h6 k6
  go_wp2_with fail
  go_end0
  exact ⟨_, _, rfl, P6.out, K6.out, fun W' _ => HE.out W' _ rfl⟩
end Go.Proofs.YtbchcipjpcdhfaaGreatDoor.Cm
/- The form get-value. -/
namespace Go.Proofs.YtbchcipjpcdhfaaGreatDoor.Cm
open Go.RowKit Go.Proofs.YtbchcipjpcdhfaaGreatDoor.Dt

theorem cmdR_terms {w : World} {A : Option Addr} {n : Nat} (c : Cmd) (hl : c.l = []) (ha : c.args = []) (hp : c.params = []) (ht : Lies 3 SexpR w A c.terms) (hn1 : c.terms.length ≤ n) (hn2 : n ≤ maxLen) (hn3 : c.terms.length * 48 ≤ 140737488351232) (hk : (Lit.int .i8 c.kind).wf = true) (hn : I64 c.n) (h1 : (c.name.size : Int) ≤ 140737488351232) (h2 : (c.res.size : Int) ≤ 140737488351232) :
    CmdR w [.int .i8 c.kind, .string c.name, .int .i64 c.n, .slice none 0 0, .slice none 0 0, .slice none 0 0, .string c.res, .slice A c.terms.length n] c := by
  refine ⟨none, 0, none, 0, none, 0, A, n, by unfold cmdCells; rw [hl, ha, hp]; rfl, ?_⟩
  refine ⟨.inl hl, .inl ha, .inl hp, ht, by rw [hl]; exact Nat.le_refl _, by rw [ha]; exact Nat.le_refl _, by rw [hp]; exact Nat.le_refl _, hn1, Nat.zero_le _, Nat.zero_le _, Nat.zero_le _, hn2, hn3, hk, hn, h1, h2⟩
theorem value_made {W0 w' : World} {A2 : Option Addr} {c2 : Nat} {xs : List Sexp} {cv : Nat → Value} (hr : SexpR W0 [.int .i8 (partS xs 1).kind, .string (partS xs 1).text, .slice A2 (partS xs 1).l.length c2] (partS xs 1)) (hb : Below W0.heap.size W0 w')
    (hcv : cells8 cv = [.int .i8 10, .string noS, .int .i64 0, .slice none 0 0, .slice none 0 0, .slice none 0 0, .string noS, (if ((false || !decide (xs.length = 2)) || decide (xs.length ≤ 1)) || !sized (partS xs 1) 1 16 then .slice none 0 0 else .slice A2 (partS xs 1).l.length c2)]) :
    Made w' cv (((false || !decide (xs.length = 2)) || decide (xs.length ≤ 1)) || !sized (partS xs 1) 1 16) (valueO xs.tail) := by
  by_cases h2 : xs.length = 2
  · obtain ⟨y, x, rfl⟩ := two_of h2
    obtain ⟨A', c', e, hl, hc, hm, _, hlb, _⟩ := hr.open'
    simp only [List.cons.injEq, Value.slice.injEq, and_true, true_and] at e
    obtain ⟨rfl, rfl⟩ := e
    show Made w' cv _ ((listN x).bind fun l => if 1 ≤ l.length ∧ l.length ≤ 16 then some { noCmd with kind := 10, terms := l } else none)
    replace hl : Lies 3 SexpR W0 A2 x.l := hl
    replace hc : x.l.length ≤ c2 := hc
    replace hlb : x.l.length * 48 ≤ 140737488351232 := hlb
    replace hcv : cells8 cv = [.int .i8 10, .string noS, .int .i64 0, .slice none 0 0, .slice none 0 0, .slice none 0 0, .string noS, (if (!sized x 1 16) = true then .slice none 0 0 else .slice A2 x.l.length c2)] := hcv
    change Made w' cv (!sized x 1 16) _
    unfold listN
    by_cases hk : x.kind = 3
    · rw [if_pos hk]
      show Made w' cv _ (if 1 ≤ x.l.length ∧ x.l.length ≤ 16 then _ else none)
      by_cases hs : 1 ≤ x.l.length ∧ x.l.length ≤ 16
      · have hz : sized x 1 16 = true := by unfold sized; simp [hk, hs.1, hs.2]
        rw [if_pos hs]
        rw [hz] at hcv ⊢
        refine ⟨rfl, ?_⟩
        rw [hcv]
        exact cmdR_terms { noCmd with kind := 10, terms := x.l } rfl rfl rfl (hl.on SexpR.lasts hb) hc hm hlb (show (Lit.int .i8 10).wf = true by decide) (show I64 0 from ⟨by decide, by decide⟩) (show ((noS.size : Nat) : Int) ≤ 140737488351232 by decide) (show ((noS.size : Nat) : Int) ≤ 140737488351232 by decide)
      · have hz : sized x 1 16 = false := by unfold sized; rw [Bool.and_eq_false_iff]; right; rw [Bool.and_eq_false_iff, decide_eq_false_iff_not, decide_eq_false_iff_not]; omega
        rw [if_neg hs, hz]
        exact (rfl : (!false) = true)
    · have hz : sized x 1 16 = false := by unfold sized; simp [hk]
      rw [if_neg hk, hz]
      exact (rfl : (!false) = true)
  · have e : valueO xs.tail = none := by
      unfold valueO
      split
      · rename_i he
        exact absurd (by have := congrArg List.length he; rw [List.length_tail] at this; simp at this; omega) h2
      · rfl
    rw [e]
    show _ = true
    simp [h2]
set_option maxHeartbeats 1600000 in
theorem value_any {W0 w : World} {pb : Nat} {A : Option Addr} {c : Nat} {xs : List Sexp} (h : ParB w pb (.slice A xs.length c) zeroV false) (hx : Lies 3 SexpR W0 A xs) (hb : Below W0.heap.size W0 w) (hp : W0.heap.size ≤ pb) :
    Calls Tryz.prog 31 #[ptrP pb] w (FormPost W0.heap.size w pb (.slice A xs.length c) (valueO xs.tail)) := by
  have HK := Lib.hid (kind_any h 10 2)
  have HJ := Lib.hid (fun W cv b (hW : ParB W pb (.slice A xs.length c) cv b) (hB : Below W0.heap.size W0 W) => part_any hW hx hB 1)
  have HS := Lib.hid (fun W cv b (hW : ParB W pb (.slice A xs.length c) cv b) A' c' hn => list_any hW (partS xs 1) A' c' 1 16 hn)
  have HB := Lib.hid hb
  have HE := Lib.hid (fun w' cv A2 c2 hr hq => value_made (W0 := W0) (w' := w') (xs := xs) (cv := cv) (A2 := A2) (c2 := c2) hr hq)
  clear h hx hb
  unfold ptrP at *
  go_enter Tryz.func31, Tryz.ntmps31
  go_wp2_with fail
  refine HK.out.mono ?_
  rintro e w1 ⟨rfl, h1, k1⟩
  have P1 := Lib.hid h1
  have K1 := Lib.hid k1
  have B1 := Lib.hid (HB.out.trans (keepP_below k1 hp HB.out.size))
  clear h1 k1
  go_wp2_with fail
  refine (HJ.out _ _ _ P1.out B1.out).mono ?_
  rintro e w2 ⟨A2, c2, ⟨rfl, r2⟩, h2, k2⟩
  have P2 := Lib.hid h2
  have K2 := Lib.hid (K1.out.trans_same k2)
  have R2 := Lib.hid r2
  have hlen : ((partS xs 1).l.length : Int) ≤ 9223372036854775807 := by
    obtain ⟨_, _, _, _, _, _, _, h48, _⟩ := r2.open'
    omega
  clear h2 k2 r2
  go_wp2_with fail
  refine (HS.out _ _ _ P2.out A2 c2 hlen).mono ?_
  rintro e w3 ⟨rfl, h3, k3⟩
  have P3 := Lib.hid h3
  have K3 := Lib.hid (K2.out.trans_same k3)
  have f8 := h3.free 8
  have d8 := h3.cell 7 (by omega)
  clear h3 k3
  generalize hV : (if (((false || !decide (xs.length = 2)) || decide (xs.length ≤ 1)) || !sized (partS xs 1) 1 16) = true then Value.slice none 0 0 else Value.slice A2 (partS xs 1).l.length c2) = V at *
  obtain ⟨Av, nv, cn, rfl⟩ : ∃ Av nv cn, V = .slice Av nv cn := by rw [← hV]; split <;> exact ⟨_, _, _, rfl⟩
  go_wp2_with fail
  go_end0
  have KE := K3.out.setCell (p := ⟨pb, 8, none⟩) (.inl rfl) (.slice Av nv cn)
  exact ⟨_, _, rfl, P3.out.setCmd 7 (by omega) _, KE, fun W' hW => HE.out W' _ A2 c2 R2.out (stay_below (HB.out.trans (keepP_below KE hp HB.out.size)) hW) (by rw [hV]; rfl)⟩
end Go.Proofs.YtbchcipjpcdhfaaGreatDoor.Cm
/- The form assert. -/
namespace Go.Proofs.YtbchcipjpcdhfaaGreatDoor.Cm
open Go.RowKit Go.Proofs.YtbchcipjpcdhfaaGreatDoor.Dt

def oAssert (x : Sexp) : Option Cmd := some { noCmd with kind := 5, terms := [x] }
theorem lies_one {w : World} {nb : Nat} {x : Sexp} {A2 : Option Addr} {c2 : Nat} (hb : w.heap[nb]? = some (.cells #[.int .i8 x.kind, .string x.text, .slice A2 x.l.length c2] 25 (0, 0))) (hr : SexpR w [.int .i8 x.kind, .string x.text, .slice A2 x.l.length c2] x) : Lies 3 SexpR w (some ⟨nb, 0, none⟩) [x] := by
  refine .inr ⟨nb, 0, rfl, lt_of_block hb, fun i y hy => ?_⟩
  have hi : i = 0 := by have := (List.getElem?_eq_some_iff.1 hy).1; simpa using this
  subst hi
  simp at hy
  subst hy
  refine ⟨_, rfl, fun j u hu => ?_, hr⟩
  rw [show 0 + 0 * 3 + j = j by omega, cell_of_cells hb]
  simpa using hu
theorem assert_made {W0 w' : World} {A2 : Option Addr} {c2 nb : Nat} {xs : List Sexp} {cv : Nat → Value} (hr : SexpR W0 [.int .i8 (partS xs 1).kind, .string (partS xs 1).text, .slice A2 (partS xs 1).l.length c2] (partS xs 1)) (hb : Below W0.heap.size W0 w')
    (hn : w'.heap[nb]? = some (.cells #[.int .i8 (partS xs 1).kind, .string (partS xs 1).text, .slice A2 (partS xs 1).l.length c2] 25 (0, 0)))
    (hcv : cells8 cv = [.int .i8 5, .string noS, .int .i64 0, .slice none 0 0, .slice none 0 0, .slice none 0 0, .string noS, .slice (some ⟨nb, 0, none⟩) 1 1]) :
    Made w' cv ((false || !decide (xs.length = 2)) || decide (xs.length ≤ 1)) (oneO xs.tail oAssert) := by
  by_cases h2 : xs.length = 2
  · obtain ⟨y, x, rfl⟩ := two_of h2
    show Made w' cv _ (some _)
    refine ⟨rfl, ?_⟩
    rw [hcv]
    exact cmdR_terms { noCmd with kind := 5, terms := [x] } rfl rfl rfl (lies_one (x := x) hn (SexpR.lasts _ _ _ _ hb hr)) (Nat.le_refl _) (show 1 ≤ maxLen by decide) (show [x].length * 48 ≤ 140737488351232 by simp) (show (Lit.int .i8 5).wf = true by decide) (show I64 0 from ⟨by decide, by decide⟩) (show ((noS.size : Nat) : Int) ≤ 140737488351232 by decide) (show ((noS.size : Nat) : Int) ≤ 140737488351232 by decide)
  · rw [oneO_not (by rw [List.length_tail]; omega)]
    show _ = true
    simp [h2]
set_option maxHeartbeats 1600000 in
theorem assert_any {W0 w : World} {pb : Nat} {A : Option Addr} {c : Nat} {xs : List Sexp} (h : ParB w pb (.slice A xs.length c) zeroV false) (hx : Lies 3 SexpR W0 A xs) (hb : Below W0.heap.size W0 w) (hp : W0.heap.size ≤ pb) :
    Calls Tryz.prog 28 #[ptrP pb] w (FormPost W0.heap.size w pb (.slice A xs.length c) (oneO xs.tail oAssert)) := by
  have HK := Lib.hid (kind_any h 5 2)
  have HJ := Lib.hid (fun W cv b (hW : ParB W pb (.slice A xs.length c) cv b) (hB : Below W0.heap.size W0 W) => part_any hW hx hB 1)
  have HB := Lib.hid hb
  have HE := Lib.hid (fun w' cv A2 c2 nb hr hq => assert_made (W0 := W0) (w' := w') (xs := xs) (cv := cv) (A2 := A2) (c2 := c2) (nb := nb) hr hq)
  clear h hx hb
  unfold ptrP at *
  go_enter Tryz.func28, Tryz.ntmps28
  go_wp2_with fail
  refine HK.out.mono ?_
  rintro e w1 ⟨rfl, h1, k1⟩
  have P1 := Lib.hid h1
  have K1 := Lib.hid k1
  have B1 := Lib.hid (HB.out.trans (keepP_below k1 hp HB.out.size))
  clear h1 k1
  go_wp2_with fail
  refine (HJ.out _ _ _ P1.out B1.out).mono ?_
  rintro e w2 ⟨A2, c2, ⟨rfl, r2⟩, h2, k2⟩
  have R2 := Lib.hid r2
  have hne : w2.heap.size ≠ pb := by have := h2.lt; omega
  have hple : pb ≤ w2.heap.size := by have := h2.lt; omega
  have HP := h2.below ((Below.refl _ _).alloc (Nat.le_refl _) (.cells #[.int .i8 (partS xs 1).kind, .string (partS xs 1).text, .slice A2 (partS xs 1).l.length c2] 25))
  have P2 := Lib.hid HP
  have K2 := Lib.hid (show KeepP pb w (w2.alloc (.cells #[.int .i8 (partS xs 1).kind, .string (partS xs 1).text, .slice A2 (partS xs 1).l.length c2] 25)) from (K1.out.trans_same k2).alloc _)
  have f8 := HP.free 8
  have d8 := HP.cell 7 (by omega)
  have f8' := h2.free 8
  have d8' := h2.cell 7 (by omega)
  clear h2 k2 r2 HP
  unfold agS
  go_wp2_with fail
  go_end0
  have KE := K2.out.setCell (p := ⟨pb, 8, none⟩) (.inl rfl) (.slice (some ⟨w2.heap.size, 0, none⟩) 1 1)
  exact ⟨_, _, rfl, P2.out.setCmd 7 (by omega) _, KE, fun W' hW => HE.out W' _ A2 c2 w2.heap.size R2.out (stay_below (HB.out.trans (keepP_below KE hp HB.out.size)) hW) (stay_blk ((Below.heap_setCell _ _ _ _ hne).trans (blk_new _ _)) hW hple) rfl⟩
end Go.Proofs.YtbchcipjpcdhfaaGreatDoor.Cm
/- Append onto a row of the call's own, whatever slice is put behind it, in a list and in a region that draws: the new row's block is told. No condition. -/
namespace Go.Proofs.YtbchcipjpcdhfaaGreatDoor
open Go.RowKit

section
variable {P : Program} {w : World}

theorem run_append_at (base : Nat) (t ty e : TypeId) (i : TypeInfo) (z : Value) (size bytes : Nat) (ht : P.underlying t = some (.slice e)) (hi : P.info? e = some i) (hz : i.zero = some z)
    (hsize : i.size = size) (hby : i.bytes = bytes) (hzs : z.cells.size = size) (hsz : 0 < size) (v : Value) (n : Nat) (xs : List Value) (hown : w.ownsRow base e size v n xs)
    (A : Option Addr) (m c : Nat) (news : List Value) (hl : news.length = m * size) (hA : Cells w A news) (h1 : ∀ u ∈ news, u.oneCell' = true)
    (h63 : n + m ≤ maxLen) (hbytes : (n + m) * bytes ≤ 140737488355328) (hbase : base ≤ w.heap.size) :
    ∃ v' w', (Builtin.append_ #[t, t] ty #[v, .slice A m c]).run P w = .ok v' w' ∧ w'.ownsRow base e size v' (n + m) (xs ++ news) ∧ w.grownBy w' v.ownBlock ∧ (v'.ownBlock = v.ownBlock ∨ v'.ownBlock = some w.heap.size) := by
  have go : ∀ ad : Addr, A = some ad → (∀ j u, news[j]? = some u → w.cell? (ad.add j) = some u) →
      ∃ v' w', (Builtin.append_ #[t, t] ty #[v, .slice A m c]).run P w = .ok v' w' ∧ w'.ownsRow base e size v' (n + m) (xs ++ news) ∧ w.grownBy w' v.ownBlock ∧ (v'.ownBlock = v.ownBlock ∨ v'.ownBlock = some w.heap.size) := by
    intro ad hA hc
    subst hA
    obtain ⟨v', w', hr, ho, hg, _, hat⟩ := run_append_own_at (P := P) w base t ty e i z size bytes ht hi hz hsize hby hzs hsz v n xs hown ad m c news hl hc h1 h63 hbytes hbase
    exact ⟨v', w', hr, ho, hg, hat⟩
  rcases hA with h0 | ⟨b, o, hA, _, hc⟩
  · subst h0
    have hm : m = 0 := by
      rcases Nat.eq_zero_or_pos m with h | h
      · exact h
      · simp at hl; have := Nat.mul_pos h hsz; omega
    subst hm
    cases A with
    | some ad => exact go ad rfl (fun j u hu => by simp at hu)
    | none =>
      refine ⟨v, w, ?_, by simpa using hown, World.grownBy.refl w _, .inl rfl⟩
      rcases hown.2 with ⟨rfl, rfl⟩ | ⟨g, cap, cur, rfl, _, _, hnc, _⟩
      · simp [Builtin.append_, run_underlying ht, sizeOf, typeInfo, hi, Builtin.lenOf, Builtin.firstCells]
      · simp [Builtin.append_, run_underlying ht, sizeOf, typeInfo, hi, Builtin.lenOf, Builtin.firstCells, hnc, storeCells]
  · refine go ⟨b, o, none⟩ hA (fun j u hu => ?_)
    have : ((⟨b, o, none⟩ : Addr).add j) = ⟨b, o + j, none⟩ := by unfold Addr.add; split <;> simp_all
    rw [this]; exact hc j u hu

theorem wp_append_at {o : Oper} {a : Act} {K : Act → World → Prop} {Q : Exit → Act → World → Prop} (s x : Operand) (t : TypeId)
    (ho : o.op = .call { callee := .builtin .append, args := #[s, x], argTypes := #[t, t] })
    (base : Nat) (e : TypeId) (i : TypeInfo) (z : Value) (size bytes : Nat) (ht : P.underlying t = some (.slice e)) (hi : P.info? e = some i) (hz : i.zero = some z)
    (hsize : i.size = size) (hby : i.bytes = bytes) (hzs : z.cells.size = size) (hsz : 0 < size) (v : Value) (n : Nat) (xs : List Value) (hs : a.eval s = v) (hown : w.ownsRow base e size v n xs)
    (A : Option Addr) (m c : Nat) (news : List Value) (hx : a.eval x = .slice A m c) (hl : news.length = m * size) (hA : Cells w A news) (h1 : ∀ u ∈ news, u.oneCell' = true)
    (h63 : n + m ≤ maxLen) (hbytes : (n + m) * bytes ≤ 140737488355328) (hbase : base ≤ w.heap.size)
    (h : ∀ v' w', w'.ownsRow base e size v' (n + m) (xs ++ news) → w.grownBy w' v.ownBlock → (v'.ownBlock = v.ownBlock ∨ v'.ownBlock = some w.heap.size) → K (a.put o.dst v') w') : o.wp P a w K Q := by
  obtain ⟨v', w', hrun, h2, h3, h4⟩ := run_append_at (P := P) (w := w) base t o.type e i z size bytes ht hi hz hsize hby hzs hsz v n xs hown A m c news hl hA h1 h63 hbytes hbase
  unfold Oper.wp execOp
  simp only [ho, resolve, invoke, builtin, Sem.run_bind, Sem.run_pure, Result.andThen_ok, List.map_toArray, List.map_cons, List.map_nil, hs, hx, hrun]
  exact h v' w' h2 h3 h4

theorem wpList_append_at {ops : Array Oper} {rest : List Oper} {o : Oper} {a : Act} {Q : Exit → Act → World → Prop} (hgd : o.guard = none) (s x : Operand) (t : TypeId)
    (ho : o.op = .call { callee := .builtin .append, args := #[s, x], argTypes := #[t, t] })
    (base : Nat) (e : TypeId) (i : TypeInfo) (z : Value) (size bytes : Nat) (ht : P.underlying t = some (.slice e)) (hi : P.info? e = some i) (hz : i.zero = some z)
    (hsize : i.size = size) (hby : i.bytes = bytes) (hzs : z.cells.size = size) (hsz : 0 < size) (v : Value) (n : Nat) (xs : List Value) (hs : a.eval s = v) (hown : w.ownsRow base e size v n xs)
    (A : Option Addr) (m c : Nat) (news : List Value) (hx : a.eval x = .slice A m c) (hl : news.length = m * size) (hA : Cells w A news) (h1 : ∀ u ∈ news, u.oneCell' = true)
    (h63 : n + m ≤ maxLen) (hbytes : (n + m) * bytes ≤ 140737488355328) (hbase : base ≤ w.heap.size)
    (h : ∀ v' w', w'.ownsRow base e size v' (n + m) (xs ++ news) → w.grownBy w' v.ownBlock → (v'.ownBlock = v.ownBlock ∨ v'.ownBlock = some w.heap.size) → wpList P ops Q rest (a.put o.dst v') w') : wpList P ops Q (o :: rest) a w :=
  wpList_plain hgd fun _ hK => wp_append_at s x t ho base e i z size bytes ht hi hz hsize hby hzs hsz v n xs hs hown A m c news hx hl hA h1 h63 hbytes hbase fun v' w' h2 h3 h4 => hK _ _ (h v' w' h2 h3 h4)

theorem step_append_at {ops : Array Oper} {o : Oper} {a : Act} {K : Act → World → Prop} {Q : Exit → Act → World → Prop} {E : Prop} (hgd : o.guard = none) (s x : Operand) (t : TypeId)
    (ho : o.op = .call { callee := .builtin .append, args := #[s, x], argTypes := #[t, t] })
    (base : Nat) (e : TypeId) (i : TypeInfo) (z : Value) (size bytes : Nat) (ht : P.underlying t = some (.slice e)) (hi : P.info? e = some i) (hz : i.zero = some z)
    (hsize : i.size = size) (hby : i.bytes = bytes) (hzs : z.cells.size = size) (hsz : 0 < size) (v : Value) (n : Nat) (xs : List Value) (hs : a.eval s = v) (hown : w.ownsRow base e size v n xs)
    (A : Option Addr) (m c : Nat) (news : List Value) (hx : a.eval x = .slice A m c) (hl : news.length = m * size) (hA : Cells w A news) (h1 : ∀ u ∈ news, u.oneCell' = true)
    (h63 : n + m ≤ maxLen) (hbytes : (n + m) * bytes ≤ 140737488355328) (hbase : base ≤ w.heap.size)
    (h : ∀ v' w', w'.ownsRow base e size v' (n + m) (xs ++ news) → w.grownBy w' v.ownBlock → (v'.ownBlock = v.ownBlock ∨ v'.ownBlock = some w.heap.size) → K (a.put o.dst v') w') :
    if Region.wanted o (yielded ops a.tmps) = true then Oper.wp P o a w K Q else E := by
  have hw : Region.wanted o (yielded ops a.tmps) = true := by simp [Region.wanted, hgd]
  rw [if_pos hw]
  exact wp_append_at s x t ho base e i z size bytes ht hi hz hsize hby hzs hsz v n xs hs hown A m c news hx hl hA h1 h63 hbytes hbase h
end
/-- an empty slice literal -/
theorem owns_empty (w : World) (e : TypeId) (size : Nat) : (w.alloc (.cells #[] e)).ownsRow w.heap.size e size (.slice (some ⟨w.heap.size, 0, none⟩) 0 0) 0 [] :=
  ⟨by simp, .inr ⟨w.heap.size, 0, #[], rfl, Nat.le_refl _, by show (w.heap.push _)[w.heap.size]? = _; exact Array.getElem?_push_size, Nat.le_refl _, Nat.zero_le _, by simp, by simp⟩⟩
end Go.Proofs.YtbchcipjpcdhfaaGreatDoor
/- A row of the call's own, grown element by element out of old memory, as a list. No condition. -/
namespace Go.Proofs.YtbchcipjpcdhfaaGreatDoor
open Go.RowKit

/-- xs's cells, told of the old world w0, stand in a row of one's own -/
structure Grows {α : Type} (n : Nat) (R : World → List Value → α → Prop) (t : TypeId) (w0 : World) (base : Nat) (w : World) (v : Value) (xs : List α) : Prop where
  row : ∃ vals, w.ownsRow base t n v xs.length vals ∧ ∀ i x, xs[i]? = some x → ∃ vs : List Value, vs.length = n ∧ R w0 vs x ∧ ∀ j u, vs[j]? = some u → vals[i * n + j]? = some u
section
variable {α : Type} {n : Nat} {R : World → List Value → α → Prop} {t : TypeId} {w0 w w' : World} {base : Nat} {v : Value} {xs : List α}
theorem Grows.nil (w : World) : Grows n R t w0 base w (.slice none 0 0) ([] : List α) := ⟨[], ⟨by simp, .inl ⟨rfl, rfl⟩⟩, fun i x hx => by simp at hx⟩
theorem Grows.shape (h : Grows n R t w0 base w v xs) : ∃ A c, v = .slice A xs.length c ∧ xs.length ≤ c ∧ c ≤ maxLen := by
  obtain ⟨vals, ho, _⟩ := h.row
  rcases ho.2 with ⟨h1, h2⟩ | ⟨g, cap, cur, h1, _, _, h2, h3, _⟩
  · exact ⟨none, 0, by rw [h2]; exact h1, by omega, by unfold maxLen; omega⟩
  · exact ⟨_, cap, h1, h2, h3⟩
theorem Grows.lt (h : Grows n R t w0 base w v xs) : ∀ k, v.ownBlock = some k → base ≤ k ∧ k < w.heap.size := by
  obtain ⟨vals, ho, _⟩ := h.row
  exact ho.lt
theorem Grows.lies {A : Option Addr} {c : Nat} (hR : Lasts R) (hb : Below w0.heap.size w0 w) (h : Grows n R t w0 base w (.slice A xs.length c) xs) : Lies n R w A xs := by
  obtain ⟨vals, ho, hr⟩ := h.row
  rcases ho.2 with ⟨h1, h2⟩ | ⟨g, cap, cur, h1, hg, hat, h2, h3, h4, h5⟩
  · exact .inl (List.length_eq_zero_iff.1 h2)
  · simp only [Value.slice.injEq] at h1
    refine .inr ⟨g, 0, h1.1, (Array.getElem?_eq_some_iff.1 hat).1, fun i x hx => ?_⟩
    obtain ⟨vs, e1, e2, e3⟩ := hr i x hx
    refine ⟨vs, e1, fun j u hu => ?_, hR _ _ _ _ hb e2⟩
    rw [Nat.zero_add, cell_of_row w g (i * n + j) cur t (0, 0) hat]
    have := e3 j u hu
    rw [← h5, List.getElem?_take] at this
    split at this
    · simpa using this
    · cases this
theorem Grows.kept {row : Option Nat} (h : Grows n R t w0 base w v xs) (hg : w.grownBy w' row) (hne : v.ownBlock = none ∨ v.ownBlock ≠ row) : Grows n R t w0 base w' v xs := by
  obtain ⟨vals, ho, hr⟩ := h.row
  exact ⟨vals, ho.kept hg hne, hr⟩
theorem grown_of_below (hb : Below w.heap.size w w') : w.grownBy w' none := ⟨hb.os, hb.tape, hb.output, hb.size, fun k hk _ => hb.block k hk⟩
theorem Grows.below (h : Grows n R t w0 base w v xs) (hb : Below w.heap.size w w') : Grows n R t w0 base w' v xs :=
  h.kept (grown_of_below hb) (by cases v.ownBlock <;> simp)
theorem Grows.alloc (h : Grows n R t w0 base w v xs) (o : Obj) : Grows n R t w0 base (w.alloc o) v xs := h.kept (World.grownBy_alloc w o none) (by cases v.ownBlock <;> simp)
theorem Grows.setCell (h : Grows n R t w0 base w v xs) {p : Addr} (u : Value) (hp : p.block < base) : Grows n R t w0 base (w.setCell p u) v xs := by
  obtain ⟨vals, ho, hr⟩ := h.row
  refine ⟨vals, ⟨ho.1, ?_⟩, hr⟩
  rcases ho.2 with h1 | ⟨g, cap, cur, h1, h2, h3, h4⟩
  · exact .inl h1
  · exact .inr ⟨g, cap, cur, h1, h2, (Below.heap_setCell w p u g (by omega)).trans h3, h4⟩
theorem Grows.push {v' : Value} {vals vs : List Value} {x : α} (hl : vals.length = xs.length * n) (hr : ∀ i x, xs[i]? = some x → ∃ vs : List Value, vs.length = n ∧ R w0 vs x ∧ ∀ j u, vs[j]? = some u → vals[i * n + j]? = some u)
    (ho : w'.ownsRow base t n v' (xs.length + 1) (vals ++ vs)) (hx : R w0 vs x) (hvs : vs.length = n) : Grows n R t w0 base w' v' (xs ++ [x]) := by
  refine ⟨vals ++ vs, by rw [List.length_append]; exact ho, fun i y hy => ?_⟩
  by_cases hi : i < xs.length
  · rw [List.getElem?_append_left hi] at hy
    obtain ⟨us, e1, e2, e3⟩ := hr i y hy
    refine ⟨us, e1, e2, fun j u hu => ?_⟩
    have := e3 j u hu
    rw [List.getElem?_append_left (List.getElem?_eq_some_iff.1 this).1]; exact this
  · have hi' : i = xs.length := by
      have := (List.getElem?_eq_some_iff.1 hy).1
      simp at this; omega
    subst hi'
    simp at hy
    subst hy
    refine ⟨vs, hvs, hx, fun j u hu => ?_⟩
    rw [List.getElem?_append_right (by rw [hl]; omega), hl, show xs.length * n + j - xs.length * n = j by omega]; exact hu
end
end Go.Proofs.YtbchcipjpcdhfaaGreatDoor
