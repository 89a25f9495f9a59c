import Derived.Test.YtbchcipjpcdhfaaGreatDoorMe
import Derived.Test.YtbchcipjpcdhfaaGreatDoorMc
import Derived.Deep.Cut
import Derived.Test.YtbchcipjpcdhfaaGreatDoorMn
/- merged by wip/merge.py from: SexpFull Great8 -/
/- How great an expression is; whether it is too great to be asked. -/
namespace Go.Proofs.YtbchcipjpcdhfaaGreatDoor.Dt
open Go.RowKit

mutual
/-- parts and bytes -/
def Sexp.full : Sexp → Nat
  | .mk _ t l => 1 + t.size + Sexp.fullL l
def Sexp.fullL : List Sexp → Nat
  | [] => 0
  | x :: r => Sexp.full x + Sexp.fullL r
end
theorem Sexp.full_eq (x : Sexp) : x.full = 1 + x.text.size + Sexp.fullL x.l := by cases x; rw [Sexp.full]; rfl
theorem Sexp.fullL_cons (x : Sexp) (r : List Sexp) : Sexp.fullL (x :: r) = x.full + Sexp.fullL r := by rw [Sexp.fullL]
theorem Sexp.fullL_nil : Sexp.fullL [] = 0 := by rw [Sexp.fullL]
theorem Sexp.fullL_append : ∀ (l m : List Sexp), Sexp.fullL (l ++ m) = Sexp.fullL l + Sexp.fullL m
  | [], m => by rw [List.nil_append, Sexp.fullL_nil, Nat.zero_add]
  | x :: r, m => by rw [List.cons_append, Sexp.fullL_cons, Sexp.fullL_cons, Sexp.fullL_append r m]; omega
theorem Sexp.fullL_take {l : List Sexp} {k : Nat} {y : Sexp} (h : l[k]? = some y) : Sexp.fullL (l.take (k + 1)) = Sexp.fullL (l.take k) + y.full := by
  rw [List.take_add_one, h]
  show Sexp.fullL (l.take k ++ [y]) = _
  rw [Sexp.fullL_append, Sexp.fullL_cons, Sexp.fullL_nil, Nat.add_zero]
theorem quote_len (l : List UInt8) : (Lx.quoteL l).length ≤ l.length + 2 := by
  unfold Lx.quoteL
  split
  · omega
  · simp
theorem bs_len (s : ByteArray) : (Lx.bs s).length = s.size := by unfold Lx.bs; simp
mutual
theorem Sexp.text_full : (x : Sexp) → x.textL.length + 1 ≤ 3 * x.full
  | .mk k t l => by
    rw [Sexp.textL_eq, Sexp.full_eq]
    show (if k = 0 then Lx.quoteL (Lx.bs t) else if k = 2 then 58 :: Lx.bs t else if k = 3 then 40 :: (Sexp.textsL l ++ [41]) else Lx.bs t).length + 1 ≤ 3 * (1 + t.size + Sexp.fullL l)
    have h1 := quote_len (Lx.bs t)
    have h2 := bs_len t
    have h3 := Sexp.texts_full l
    split
    · omega
    split
    · rw [List.length_cons]; omega
    split
    · rw [List.length_cons, List.length_append, List.length_singleton]; omega
    · omega
theorem Sexp.texts_full : (l : List Sexp) → (Sexp.textsL l).length ≤ 3 * Sexp.fullL l
  | [] => by rw [Sexp.textsL]; exact Nat.zero_le _
  | x :: r => by
    have h1 := Sexp.text_full x
    have h2 := Sexp.rests_full r
    rw [Sexp.textsL, Sexp.fullL_cons, List.length_append]
    omega
theorem Sexp.rests_full : (l : List Sexp) → (Sexp.restsL l).length ≤ 3 * Sexp.fullL l
  | [] => by rw [Sexp.restsL]; exact Nat.zero_le _
  | x :: r => by
    have h1 := Sexp.text_full x
    have h2 := Sexp.rests_full r
    rw [Sexp.restsL, Sexp.fullL_cons, List.length_cons, List.length_append]
    omega
end
def SizePost (x : Sexp) (most : Int) (e : Ending) : Prop := ∃ r : Int, (1 ≤ r ∧ r ≤ most + 5001 ∧ (r < most → r = x.full)) ∧ e = .returned (.int .i64 r)
theorem sizePost {x : Sexp} {most r : Int} (h : 1 ≤ r ∧ r ≤ most + 5001 ∧ (r < most → r = x.full)) : SizePost x most (.returned (.int .i64 r)) := ⟨r, h, rfl⟩
set_option maxRecDepth 100000 in
set_option maxHeartbeats 3200000 in
theorem size_full : ∀ (n : Nat) (x : Sexp), SizeOf.sizeOf x < n → ∀ (w : World) (A : Option Addr) (c : Nat) (most : Int), 1 ≤ most → most ≤ 4000 → SexpR w [.int .i8 x.kind, .string x.text, .slice A x.l.length c] x →
    Calls Tryz.prog 21 #[.agg #[.int .i8 x.kind, .string x.text, .slice A x.l.length c], .int .i64 most] w fun e w' => SizePost x most e ∧ Below w.heap.size w w' := by
  intro n
  induction n with
  | zero => intro x hx; omega
  | succ n ih =>
    intro x hx w A c most hm1 hm2 hr
    have IH := Lib.hid ih
    obtain ⟨A0, c0, e0, hl, hc, hcm, ht, hlb, _⟩ := hr.open'
    simp only [List.cons.injEq, Value.slice.injEq, and_true, true_and] at e0
    obtain ⟨rfl, rfl⟩ := e0
    have HL := Lib.hid hl
    have HX := Lib.hid hx
    have HM := Lib.hid (fun y (hy : y ∈ x.l) => Sexp.mem_lt hy)
    obtain ⟨g0, g1, g2, _⟩ := box_cells w (.int .i8 x.kind) (.string x.text) (.slice A x.l.length c) 25
    have B0 := Lib.hid ((Below.refl w.heap.size w).alloc (Nat.le_refl _) (.cells #[.int .i8 x.kind, .string x.text, .slice A x.l.length c] 25))
    have hz : w.heap.size < (w.alloc (.cells #[.int .i8 x.kind, .string x.text, .slice A x.l.length c] 25)).heap.size := by simp
    have hlb2 : (x.l.length : Int) ≤ 140737488351232 := by omega
    have HFu := Lib.hid (Sexp.full_eq x)
    have HP := Lib.hid (fun r (h : 1 ≤ r ∧ r ≤ most + 5001 ∧ (r < most → r = x.full)) => sizePost (x := x) h)
    have HMo := Lib.hid (And.intro hm1 hm2)
    generalize hfx : x.full = fx at *
    generalize x.l = l at *
    generalize x.text = t at *
    generalize x.kind = kd at *
    clear hl hr hx ih hlb hfx
    have HC := Lib.hid (fun W (hW : Below (w.alloc (.cells #[.int .i8 kd, .string t, .slice A l.length c] 25)).heap.size (w.alloc (.cells #[.int .i8 kd, .string t, .slice A l.length c] 25)) W) => ((bcell hW).1 w.heap.size 2 hz).trans g2)
    have HT := Lib.hid (show 1 ≤ 1 + (t.size : Int) by omega)
    clear g0 g2 hz
    have HZ : 0 < 1 := by omega
    obtain ⟨mz, hmz, hmz2⟩ : ∃ mz : Int, (if (t.size : Int) ≤ 5000 then (t.size : Int) else 5000) = mz ∧ (0 ≤ mz ∧ mz ≤ 5000 ∧ (mz < 4000 → mz = t.size)) := ⟨_, rfl, by split <;> omega⟩
    have HMz := Lib.hid hmz
    clear hmz
    by_cases ht5 : (5000 : Int) < (t.size : Int)
    all_goals
      go_enter Tryz.func21, Tryz.ntmps21
      go_wp2_with fail
      generalize w.alloc (.cells #[.int .i8 kd, .string t, .slice A l.length c] 25) = w0 at *
      go_loopw [5, 6] (fun v i wr => ∃ (k : Nat) (z : Int), k ≤ l.length ∧ i = .int .i64 k ∧ v = .int .i64 z ∧ (1 ≤ z ∧ z ≤ most + 5001 ∧ (z < most → z = 1 + (t.size : Int) + (Sexp.fullL (l.take k) : Int))) ∧ Below w0.heap.size w0 wr) (fun _ i _ => l.length - (intOf i).toNat)
      case atStart => first | exact ⟨0, _, by omega, rfl, rfl, ⟨HT.out, by have := HMo.out; omega, fun h => by rw [List.take_zero, Sexp.fullL_nil]; omega⟩, Below.refl _ _⟩ | exact ⟨0, _, by omega, rfl, rfl, ⟨by omega, by have := HMo.out; omega, fun h => by have := HMo.out; omega⟩, Below.refl _ _⟩ | exact ⟨0, _, by omega, rfl, rfl, by rw [HMz.out]; exact ⟨by omega, by have := HMo.out; omega, fun h => by have := HMo.out; rw [List.take_zero, Sexp.fullL_nil]; omega⟩, Below.refl _ _⟩ | exact ⟨0, _, by omega, rfl, rfl, ⟨by omega, by have := HMo.out; omega, fun h => by have := HMo.out; rw [List.take_zero, Sexp.fullL_nil]; omega⟩, Below.refl _ _⟩
      case round =>
        obtain ⟨k, z, hk, rfl, rfl, hzi, hb⟩ := hrel
        have HZi := Lib.hid hzi
        have HB := Lib.hid hb
        have q2 := HC.out wr hb
        have HBw := Lib.hid (B0.out.trans (hb.mono B0.out.size))
        clear hzi hb
        by_cases hlt : k < l.length
        · have hlt2 : (k : Int) < (l.length : Int) := by omega
          by_cases hzm : z < most
          · have hzm' := decide_eq_true hzm
            have hy := List.getElem?_eq_getElem hlt
            have hym := List.getElem_mem hlt
            generalize l[k] = y at hy hym
            obtain ⟨b, o, A', c', rfl, hbl, e0, e1, e2, hr⟩ := sexp_cells (HL.out.on SexpR.lasts HBw.out) hy
            have HTk := Lib.hid (Sexp.fullL_take hy)
            have hmz : wrap64 (most - z) = most - z := IntWalk.wrap64_in _ (by have := HZi.out; have := HMo.out; omega)
            have HY := Lib.hid (fun W (hW : Below wr.heap.size wr W) => IH.out y (by have h1 := HM.out y hym; have h2 := HX.out; omega) W A' c' (most - z) (by omega) (by have := HZi.out; omega) (SexpR.lasts _ _ _ _ hW hr))
            clear hr hy hym
            go_wp2_with fail
            refine (HY.out _ (Below.refl _ _)).mono ?_
            rintro e w2 ⟨⟨r, hri, rfl⟩, hb2⟩
            have HB2 := Lib.hid (HB.out.trans (hb2.mono HB.out.size))
            have hzr : wrap64 (z + r) = z + r := IntWalk.wrap64_in _ (by have := HZi.out; have := HMo.out; omega)
            have HI2 := Lib.hid (show 1 ≤ z + r ∧ z + r ≤ most + 5001 ∧ (z + r < most → z + r = 1 + (t.size : Int) + (Sexp.fullL (l.take (k + 1)) : Int)) from
              ⟨by have := HZi.out; omega, by omega, fun h => by have h1 := HZi.out.2.2 hzm; have h2 := hri.2.2 (by omega); rw [HTk.out]; omega⟩)
            clear hb2 hri
            go_wp2_with fail
            go_roundw
            case rel => exact ⟨k + 1, _, by omega, by go_num, rfl, by rw [hzr]; exact HI2.out, HB2.out⟩
            case measure => simp [intOf]; omega
          · have hzm' := decide_eq_false hzm
            have HS := Lib.hid (HP.out z ⟨HZi.out.1, HZi.out.2.1, fun h => absurd h hzm⟩)
            go_wp2_with fail
            go_ret
            exact ⟨HS.out, HBw.out⟩
        · have hge : decide ((k : Int) < (l.length : Int)) = false := decide_eq_false (by omega)
          have hkl : k = l.length := by omega
          have HS := Lib.hid (HP.out z ⟨HZi.out.1, HZi.out.2.1, fun h => by have h1 := HZi.out.2.2 h; rw [hkl, List.take_length] at h1; have := HFu.out; omega⟩)
          clear hkl
          go_wp2_with fail
          go_ret
          exact ⟨HS.out, HBw.out⟩
/-- what is not too great has fewer than 4000 parts and bytes -/
def GreatX (x : Sexp) (e : Ending) : Prop := ∃ b : Bool, e = .returned (.bool b) ∧ (b = false → x.full < 4000)
set_option maxHeartbeats 1600000 in
theorem greatx_any {w : World} {A : Option Addr} {c : Nat} {x : Sexp} (h : SexpR w [.int .i8 x.kind, .string x.text, .slice A x.l.length c] x) :
    Calls Tryz.prog 6 #[.agg #[.int .i8 x.kind, .string x.text, .slice A x.l.length c]] w fun e w' => GreatX x e ∧ Below w.heap.size w w' := by
  have HB := Lib.hid ((Below.refl w.heap.size w).alloc (Nat.le_refl _) (.cells #[.int .i8 x.kind, .string x.text, .slice A x.l.length c] 25))
  have HS := Lib.hid (size_full _ x (Nat.lt_succ_self _) _ A c 4000 (by omega) (by omega) (SexpR.lasts _ _ _ _ HB.out h))
  obtain ⟨q0, q1, q2, _⟩ := box_cells w (.int .i8 x.kind) (.string x.text) (.slice A x.l.length c) 25
  clear h
  go_enter Tryz.func6, Tryz.ntmps6
  go_wp2_with fail
  refine HS.out.mono ?_
  rintro e w2 ⟨⟨r, hr, rfl⟩, hb2⟩
  have HB2 := Lib.hid (HB.out.trans (hb2.mono HB.out.size))
  by_cases h4 : (4000 : Int) ≤ r
  · have h4' : decide ((4000 : Int) ≤ r) = true := decide_eq_true h4
    have h4'' : (r ≥ 4000) := h4
    clear hr hb2
    go_wp2_with fail
    go_ret
    exact ⟨⟨true, rfl, fun h => by cases h⟩, HB2.out⟩
  · have HF := Lib.hid (show x.full < 4000 by have := hr.2.2 (by omega); omega)
    have h4' : decide ((4000 : Int) ≤ r) = false := decide_eq_false h4
    have h4'' : decide (r ≥ 4000) = false := decide_eq_false (by omega)
    clear hr hb2
    go_wp2_with fail
    go_ret
    exact ⟨⟨false, rfl, fun _ => HF.out⟩, HB2.out⟩
end Go.Proofs.YtbchcipjpcdhfaaGreatDoor.Dt
/- Is a command too great to be asked? -/
namespace Go.Proofs.YtbchcipjpcdhfaaGreatDoor.Cm
open Go.RowKit Go.Proofs.YtbchcipjpcdhfaaGreatDoor.Dt

structure CmdOk (c : Cmd) : Prop where
  l : c.l.length ≤ 200
  args : c.args.length ≤ 40
  params : c.params.length ≤ 40
  terms : c.terms.length ≤ 40
  names : c.name.size + c.res.size ≤ 500
  arg : ∀ s ∈ c.args, s.size ≤ 200
  param : ∀ p ∈ c.params, p.1.size + p.2.size ≤ 400
  term : ∀ x ∈ c.terms, x.full < 4000
theorem CmdOk.small {c : Cmd} (h : CmdOk c) : CmdSmall c := ⟨by have := h.l; omega, by have := h.args; omega, by have := h.params; omega, by have := h.terms; omega⟩
def GreatC (c : Cmd) (e : Ending) : Prop := ∃ b : Bool, e = .returned (.bool b) ∧ (b = false → CmdOk c)
theorem great_c {c : Cmd} : GreatC c (.returned (.bool true)) := ⟨true, rfl, fun h => by cases h⟩
theorem all_take {α : Type} {p : α → Prop} {l : List α} {k : Nat} {y : α} (hy : l[k]? = some y) (h : ∀ x ∈ l.take k, p x) (hp : p y) : ∀ x ∈ l.take (k + 1), p x := by
  intro x hx
  rw [List.take_add_one, hy] at hx
  rcases List.mem_append.1 hx with h1 | h1
  · exact h x h1
  · simp at h1; subst h1; exact hp
set_option maxRecDepth 100000 in
set_option maxHeartbeats 12800000 in
theorem great8_any {w : World} {a : Cmd} {A1 A2 A3 A4 : Option Addr} {c1 c2 c3 c4 : Nat} (ha : CmdAt w A1 c1 A2 c2 A3 c3 A4 c4 a) :
    Calls Tryz.prog 11 #[agC A1 c1 A2 c2 A3 c3 A4 c4 a] w fun e w' => GreatC a e ∧ Below w.heap.size w w' := by
  have HBx := Lib.hid ((Below.refl w.heap.size w).alloc (Nat.le_refl _) (.cells #[.int .i8 a.kind, .string a.name, .int .i64 a.n, .slice A1 a.l.length c1, .slice A2 a.args.length c2, .slice A3 a.params.length c3, .string a.res, .slice A4 a.terms.length c4] 32))
  have NA := Lib.hid (blk_new w (.cells #[.int .i8 a.kind, .string a.name, .int .i64 a.n, .slice A1 a.l.length c1, .slice A2 a.args.length c2, .slice A3 a.params.length c3, .string a.res, .slice A4 a.terms.length c4] 32))
  have HA := Lib.hid ha
  have hnb := ha.name
  have hrb := ha.res
  clear ha
  have hnr : wrap64 ((a.name.size : Int) + (a.res.size : Int)) = (a.name.size : Int) + (a.res.size : Int) := IntWalk.wrap64_in _ (by omega)
  unfold agC
  go_enter Tryz.func11, Tryz.ntmps11
  go_upto_region 1 with fail
  generalize w.alloc (.cells #[.int .i8 a.kind, .string a.name, .int .i64 a.n, .slice A1 a.l.length c1, .slice A2 a.args.length c2, .slice A3 a.params.length c3, .string a.res, .slice A4 a.terms.length c4] 32) = w2 at *
  obtain ⟨n0, n1, n2, n3, n4, n5, n6, n7, nf⟩ := eight_cells NA.out
  by_cases hc0 : a.l.length ≤ 200
  rotate_left
  · have hd : decide ((200 : Int) < (a.l.length : Int)) = true := decide_eq_true (by omega)
    have hd' : decide ((a.l.length : Int) > 200) = true := decide_eq_true (by omega)
    go_wp2_with fail
    go_ret
    exact ⟨great_c, HBx.out⟩
  have hd0 : decide ((200 : Int) < (a.l.length : Int)) = false := decide_eq_false (by omega)
  have hd0' : decide ((a.l.length : Int) > 200) = false := decide_eq_false (by omega)
  by_cases hc1 : a.args.length ≤ 40
  rotate_left
  · have hd : decide ((40 : Int) < (a.args.length : Int)) = true := decide_eq_true (by omega)
    have hd' : decide ((a.args.length : Int) > 40) = true := decide_eq_true (by omega)
    go_wp2_with fail
    go_ret
    exact ⟨great_c, HBx.out⟩
  have hd1 : decide ((40 : Int) < (a.args.length : Int)) = false := decide_eq_false (by omega)
  have hd1' : decide ((a.args.length : Int) > 40) = false := decide_eq_false (by omega)
  by_cases hc2 : a.params.length ≤ 40
  rotate_left
  · have hd : decide ((40 : Int) < (a.params.length : Int)) = true := decide_eq_true (by omega)
    have hd' : decide ((a.params.length : Int) > 40) = true := decide_eq_true (by omega)
    go_wp2_with fail
    go_ret
    exact ⟨great_c, HBx.out⟩
  have hd2 : decide ((40 : Int) < (a.params.length : Int)) = false := decide_eq_false (by omega)
  have hd2' : decide ((a.params.length : Int) > 40) = false := decide_eq_false (by omega)
  by_cases hc3 : a.terms.length ≤ 40
  rotate_left
  · have hd : decide ((40 : Int) < (a.terms.length : Int)) = true := decide_eq_true (by omega)
    have hd' : decide ((a.terms.length : Int) > 40) = true := decide_eq_true (by omega)
    go_wp2_with fail
    go_ret
    exact ⟨great_c, HBx.out⟩
  have hd3 : decide ((40 : Int) < (a.terms.length : Int)) = false := decide_eq_false (by omega)
  have hd3' : decide ((a.terms.length : Int) > 40) = false := decide_eq_false (by omega)
  by_cases hc4 : a.name.size + a.res.size ≤ 500
  rotate_left
  · have hd : decide ((500 : Int) < (a.name.size : Int) + (a.res.size : Int)) = true := decide_eq_true (by omega)
    have hd' : decide ((a.name.size : Int) + (a.res.size : Int) > 500) = true := decide_eq_true (by omega)
    go_wp2_with fail
    go_ret
    exact ⟨great_c, HBx.out⟩
  have hd4 : decide ((500 : Int) < (a.name.size : Int) + (a.res.size : Int)) = false := decide_eq_false (by omega)
  have hd4' : decide ((a.name.size : Int) + (a.res.size : Int) > 500) = false := decide_eq_false (by omega)
  have HC := Lib.hid (And.intro hc0 (And.intro hc1 (And.intro hc2 (And.intro hc3 hc4))))
  clear hc4
  go_wp2_with fail
  clear n0 n1 n2 n3 n4 n5 n6 n7 nf hd0 hd1 hd2 hd3 hd4 hd0' hd1' hd2' hd3' hd4' hnr hc0 hnb hrb
  have HB0 := Lib.hid (Below.refl w2.heap.size w2)
  go_loopw [3] (fun v wr => ∃ k : Nat, k ≤ a.args.length ∧ v = .int .i64 k ∧ (∀ p ∈ a.args.take k, p.size ≤ 200) ∧ Below w2.heap.size w2 wr) (fun v _ => a.args.length - (intOf v).toNat)
  case atStart => exact ⟨0, Nat.zero_le _, rfl, fun p hp => by simp at hp, HB0.out⟩
  case round =>
    obtain ⟨k, hk, rfl, ht, hb⟩ := hrel
    have HT := Lib.hid ht
    have HBr := Lib.hid hb
    have HBW := Lib.hid (HBx.out.trans (hb.mono HBx.out.size))
    obtain ⟨n0, n1, n2, n3, n4, n5, n6, n7, nf⟩ := eight_cells ((hb.block _ (lt_of_block NA.out)).trans NA.out)
    have hla := Nat.lt_of_lt_of_le (lt_of_block NA.out) hb.size
    clear ht hb
    by_cases hlt : k < a.args.length
    · have hlt2 : (k : Int) < (a.args.length : Int) := by omega
      have hyk := List.getElem?_eq_getElem hlt
      obtain ⟨b1, o1, hA, g0⟩ := str_get (HA.out.args.on StrR.lasts HBW.out) hlt
      subst hA
      rw [show a.args.getD k noS = a.args[k] by rw [List.getD_eq_getElem?_getD, hyk]; rfl] at g0
      generalize a.args[k] = x at hyk g0
      by_cases hx : x.size ≤ 200
      · have hd : decide ((200 : Int) < (x.size : Int)) = false := decide_eq_false (by omega)
        have hd' : decide ((x.size : Int) > 200) = false := decide_eq_false (by omega)
        have HN := Lib.hid (all_take hyk HT.out hx)
        clear hyk
        go_wp2_with fail
        go_roundw
        case rel => exact ⟨k + 1, by omega, by go_num, HN.out, HBr.out⟩
        case measure => simp [intOf]; omega
      · have hd : decide ((200 : Int) < (x.size : Int)) = true := decide_eq_true (by omega)
        have hd' : decide ((x.size : Int) > 200) = true := decide_eq_true (by omega)
        clear hyk
        go_wp2_with fail
        go_ret
        exact ⟨great_c, HBW.out⟩
    · obtain rfl : k = a.args.length := by omega
      have HF1 := Lib.hid (show ∀ p ∈ a.args, p.size ≤ 200 by have h := HT.out; rw [List.take_length] at h; exact h)
      go_wp2_with fail
      clear n0 n1 n2 n3 n4 n5 n6 n7 nf hla hlt HT HBW
      have HB1 := Lib.hid HBr.out
      clear HBr
      rename World => wr1
      go_loopw [4] (fun v wr => ∃ k : Nat, k ≤ a.params.length ∧ v = .int .i64 k ∧ (∀ p ∈ a.params.take k, p.1.size + p.2.size ≤ 400) ∧ Below w2.heap.size w2 wr) (fun v _ => a.params.length - (intOf v).toNat)
      case atStart => exact ⟨0, Nat.zero_le _, rfl, fun p hp => by simp at hp, HB1.out⟩
      case round =>
        obtain ⟨k, hk, rfl, ht, hb⟩ := hrel
        have HT := Lib.hid ht
        have HBr := Lib.hid hb
        have HBW := Lib.hid (HBx.out.trans (hb.mono HBx.out.size))
        obtain ⟨n0, n1, n2, n3, n4, n5, n6, n7, nf⟩ := eight_cells ((hb.block _ (lt_of_block NA.out)).trans NA.out)
        have hla := Nat.lt_of_lt_of_le (lt_of_block NA.out) hb.size
        clear ht hb
        by_cases hlt : k < a.params.length
        · have hlt2 : (k : Int) < (a.params.length : Int) := by omega
          have hyk := List.getElem?_eq_getElem hlt
          obtain ⟨b1, o1, hA, g0, g1⟩ := pair_get (HA.out.params.on PairR.lasts HBW.out) hlt
          have hps := pair_size HA.out.params hlt
          subst hA
          rw [show a.params.getD k (noS, noS) = a.params[k] by rw [List.getD_eq_getElem?_getD, hyk]; rfl] at g0 g1 hps
          generalize a.params[k] = x at hyk g0 g1 hps
          have hxr : wrap64 ((x.1.size : Int) + (x.2.size : Int)) = (x.1.size : Int) + (x.2.size : Int) := IntWalk.wrap64_in _ (by omega)
          have hxk : IntKind.i64.wrap ((x.1.size : Int) + (x.2.size : Int)) = (x.1.size : Int) + (x.2.size : Int) := IntWalk.i64_in _ (by omega)
          by_cases hx : x.1.size + x.2.size ≤ 400
          · have hd : decide ((400 : Int) < (x.1.size : Int) + (x.2.size : Int)) = false := decide_eq_false (by omega)
            have hd' : decide ((x.1.size : Int) + (x.2.size : Int) > 400) = false := decide_eq_false (by omega)
            have HN := Lib.hid (all_take hyk HT.out hx)
            clear hyk
            go_wp2_with fail
            refine wp_region_held_drew (S := fun W => W.cell? ⟨w.heap.size, 5, none⟩ = some (.slice (some ⟨b1, o1, none⟩) a.params.length c3) ∧ W.cell? ⟨b1, o1 + k * 2, none⟩ = some (.string x.1) ∧ W.cell? ⟨b1, o1 + k * 2 + 1, none⟩ = some (.string x.2)) (by kernel_rfl) (⟨n5, g0, g1⟩) (fun hHeld => ?_)
            clear n0 n1 n2 n3 n4 n5 n6 n7 nf g0 g1
            refine wpAnyH_take (i := 0) (oi := Oper.mk _ _ _ _ _ _) (v := ?_) rfl (by kernel_rfl) (by kernel_rfl) (by kernel_rfl) (fun _ _ _ h => h) (Or.inl ⟨by rfl, ?_⟩) (by assumption) ?_
            rotate_left
            · (intro w hSw; (try dsimp only at hSw); go_simp; try with_reducible rfl)
            try simp only [Act.put, List.setIfInBounds_toArray, List.set_cons_zero, List.set_cons_succ]
            refine wpAnyH_take (i := 1) (oi := Oper.mk _ _ _ _ _ _) (v := ?_) rfl (by kernel_rfl) (by kernel_rfl) (by kernel_rfl) (fun _ _ _ h => h) (Or.inl ⟨by rfl, ?_⟩) (by assumption) ?_
            rotate_left
            · (intro w hSw; (try dsimp only at hSw); go_simp; try with_reducible rfl)
            try simp only [Act.put, List.setIfInBounds_toArray, List.set_cons_zero, List.set_cons_succ]
            refine wpAnyH_take (i := 2) (oi := Oper.mk _ _ _ _ _ _) (v := ?_) rfl (by kernel_rfl) (by kernel_rfl) (by kernel_rfl) (fun _ _ _ h => h) (Or.inl ⟨by rfl, ?_⟩) (by assumption) ?_
            rotate_left
            · (intro w hSw; (try dsimp only at hSw); go_simp; try with_reducible rfl)
            try simp only [Act.put, List.setIfInBounds_toArray, List.set_cons_zero, List.set_cons_succ]
            refine wpAnyH_take (i := 3) (oi := Oper.mk _ _ _ _ _ _) (v := ?_) rfl (by kernel_rfl) (by kernel_rfl) (by kernel_rfl) (fun _ _ _ h => h) (Or.inl ⟨by rfl, ?_⟩) (by assumption) ?_
            rotate_left
            · (intro w hSw; (try dsimp only at hSw); go_simp; try with_reducible rfl)
            try simp only [Act.put, List.setIfInBounds_toArray, List.set_cons_zero, List.set_cons_succ]
            refine wpAnyH_take (i := 4) (oi := Oper.mk _ _ _ _ _ _) (v := ?_) rfl (by kernel_rfl) (by kernel_rfl) (by kernel_rfl) (fun _ _ _ h => h) (Or.inl ⟨by rfl, ?_⟩) (by assumption) ?_
            rotate_left
            · (intro w hSw; (try dsimp only at hSw); go_simp; try with_reducible rfl)
            try simp only [Act.put, List.setIfInBounds_toArray, List.set_cons_zero, List.set_cons_succ]
            refine wpAnyH_take (i := 5) (oi := Oper.mk _ _ _ _ _ _) (v := ?_) rfl (by kernel_rfl) (by kernel_rfl) (by kernel_rfl) (fun _ _ _ h => h) (Or.inl ⟨by rfl, ?_⟩) (by assumption) ?_
            rotate_left
            · (intro w hSw; (try dsimp only at hSw); go_simp; try with_reducible rfl)
            try simp only [Act.put, List.setIfInBounds_toArray, List.set_cons_zero, List.set_cons_succ]
            refine wpAnyH_take (i := 6) (oi := Oper.mk _ _ _ _ _ _) (v := ?_) rfl (by kernel_rfl) (by kernel_rfl) (by kernel_rfl) (fun _ _ _ h => h) (Or.inl ⟨by rfl, ?_⟩) (by assumption) ?_
            rotate_left
            · (intro w hSw; (try dsimp only at hSw); go_simp; try with_reducible rfl)
            try simp only [Act.put, List.setIfInBounds_toArray, List.set_cons_zero, List.set_cons_succ]
            refine wpAnyH_take (i := 7) (oi := Oper.mk _ _ _ _ _ _) (v := ?_) rfl (by kernel_rfl) (by kernel_rfl) (by kernel_rfl) (fun _ _ _ h => h) (Or.inl ⟨by rfl, ?_⟩) (by assumption) ?_
            rotate_left
            · (intro w hSw; (try dsimp only at hSw); go_simp; try with_reducible rfl)
            try simp only [Act.put, List.setIfInBounds_toArray, List.set_cons_zero, List.set_cons_succ]
            refine wpAnyH_take (i := 8) (oi := Oper.mk _ _ _ _ _ _) (v := ?_) rfl (by kernel_rfl) (by kernel_rfl) (by kernel_rfl) (fun _ _ _ h => h) (Or.inl ⟨by rfl, ?_⟩) (by assumption) ?_
            rotate_left
            · (intro w hSw; (try dsimp only at hSw); go_simp; try with_reducible rfl)
            try simp only [Act.put, List.setIfInBounds_toArray, List.set_cons_zero, List.set_cons_succ]
            refine wpAnyH_take (i := 9) (oi := Oper.mk _ _ _ _ _ _) (v := ?_) rfl (by kernel_rfl) (by kernel_rfl) (by kernel_rfl) (fun _ _ _ h => h) (Or.inl ⟨by rfl, ?_⟩) (by assumption) ?_
            rotate_left
            · (intro w hSw; (try dsimp only at hSw); go_simp; try with_reducible rfl)
            try simp only [Act.put, List.setIfInBounds_toArray, List.set_cons_zero, List.set_cons_succ]
            refine wpAnyH_take (i := 10) (oi := Oper.mk _ _ _ _ _ _) (v := ?_) rfl (by kernel_rfl) (by kernel_rfl) (by kernel_rfl) (fun _ _ _ h => h) (Or.inl ⟨by rfl, ?_⟩) (by assumption) ?_
            rotate_left
            · (intro w hSw; (try dsimp only at hSw); go_simp; try with_reducible rfl)
            try simp only [Act.put, List.setIfInBounds_toArray, List.set_cons_zero, List.set_cons_succ]
            refine wpAnyH_take (i := 11) (oi := Oper.mk _ _ _ _ _ _) (v := ?_) rfl (by kernel_rfl) (by kernel_rfl) (by kernel_rfl) (fun _ _ _ h => h) (Or.inl ⟨by rfl, ?_⟩) (by assumption) ?_
            rotate_left
            · (intro w hSw; (try dsimp only at hSw); go_simp; try with_reducible rfl)
            try simp only [Act.put, List.setIfInBounds_toArray, List.set_cons_zero, List.set_cons_succ]
            refine wpAnyH_take (i := 12) (oi := Oper.mk _ _ _ _ _ _) (v := ?_) rfl (by kernel_rfl) (by kernel_rfl) (by kernel_rfl) (fun _ _ _ h => h) (Or.inl ⟨by rfl, ?_⟩) (by assumption) ?_
            rotate_left
            · (intro w hSw; (try dsimp only at hSw); go_simp; try with_reducible rfl)
            try simp only [Act.put, List.setIfInBounds_toArray, List.set_cons_zero, List.set_cons_succ]
            refine wpAnyH_take (i := 13) (oi := Oper.mk _ _ _ _ _ _) (v := ?_) rfl (by kernel_rfl) (by kernel_rfl) (by kernel_rfl) (fun _ _ _ h => h) (Or.inl ⟨by rfl, ?_⟩) (by assumption) ?_
            rotate_left
            · (intro w hSw; (try dsimp only at hSw); go_simp; try with_reducible rfl)
            try simp only [Act.put, List.setIfInBounds_toArray, List.set_cons_zero, List.set_cons_succ]
            refine wpAnyH_take (i := 14) (oi := Oper.mk _ _ _ _ _ _) (v := ?_) rfl (by kernel_rfl) (by kernel_rfl) (by kernel_rfl) (fun _ _ _ h => h) (Or.inl ⟨by rfl, ?_⟩) (by assumption) ?_
            rotate_left
            · (intro w hSw; (try dsimp only at hSw); go_simp; try with_reducible rfl)
            try simp only [Act.put, List.setIfInBounds_toArray, List.set_cons_zero, List.set_cons_succ]
            refine wpAnyH_take (i := 15) (oi := Oper.mk _ _ _ _ _ _) (v := ?_) rfl (by kernel_rfl) (by kernel_rfl) (by kernel_rfl) (fun _ _ _ h => h) (Or.inl ⟨by rfl, ?_⟩) (by assumption) ?_
            rotate_left
            · (intro w hSw; (try dsimp only at hSw); go_simp; try with_reducible rfl)
            try simp only [Act.put, List.setIfInBounds_toArray, List.set_cons_zero, List.set_cons_succ]
            refine wpAnyH_done (by kernel_rfl) ?_ _
            clear hHeld
            go_wp2_with fail
            go_roundw
            case rel => exact ⟨k + 1, by omega, by go_num, HN.out, HBr.out.drew⟩
            case measure => simp [intOf]; omega
          · have hd : decide ((400 : Int) < (x.1.size : Int) + (x.2.size : Int)) = true := decide_eq_true (by omega)
            have hd' : decide ((x.1.size : Int) + (x.2.size : Int) > 400) = true := decide_eq_true (by omega)
            clear hyk
            go_wp2_with fail
            refine wp_region_held_drew (S := fun W => W.cell? ⟨w.heap.size, 5, none⟩ = some (.slice (some ⟨b1, o1, none⟩) a.params.length c3) ∧ W.cell? ⟨b1, o1 + k * 2, none⟩ = some (.string x.1) ∧ W.cell? ⟨b1, o1 + k * 2 + 1, none⟩ = some (.string x.2)) (by kernel_rfl) (⟨n5, g0, g1⟩) (fun hHeld => ?_)
            clear n0 n1 n2 n3 n4 n5 n6 n7 nf g0 g1
            refine wpAnyH_take (i := 0) (oi := Oper.mk _ _ _ _ _ _) (v := ?_) rfl (by kernel_rfl) (by kernel_rfl) (by kernel_rfl) (fun _ _ _ h => h) (Or.inl ⟨by rfl, ?_⟩) (by assumption) ?_
            rotate_left
            · (intro w hSw; (try dsimp only at hSw); go_simp; try with_reducible rfl)
            try simp only [Act.put, List.setIfInBounds_toArray, List.set_cons_zero, List.set_cons_succ]
            refine wpAnyH_take (i := 1) (oi := Oper.mk _ _ _ _ _ _) (v := ?_) rfl (by kernel_rfl) (by kernel_rfl) (by kernel_rfl) (fun _ _ _ h => h) (Or.inl ⟨by rfl, ?_⟩) (by assumption) ?_
            rotate_left
            · (intro w hSw; (try dsimp only at hSw); go_simp; try with_reducible rfl)
            try simp only [Act.put, List.setIfInBounds_toArray, List.set_cons_zero, List.set_cons_succ]
            refine wpAnyH_take (i := 2) (oi := Oper.mk _ _ _ _ _ _) (v := ?_) rfl (by kernel_rfl) (by kernel_rfl) (by kernel_rfl) (fun _ _ _ h => h) (Or.inl ⟨by rfl, ?_⟩) (by assumption) ?_
            rotate_left
            · (intro w hSw; (try dsimp only at hSw); go_simp; try with_reducible rfl)
            try simp only [Act.put, List.setIfInBounds_toArray, List.set_cons_zero, List.set_cons_succ]
            refine wpAnyH_take (i := 3) (oi := Oper.mk _ _ _ _ _ _) (v := ?_) rfl (by kernel_rfl) (by kernel_rfl) (by kernel_rfl) (fun _ _ _ h => h) (Or.inl ⟨by rfl, ?_⟩) (by assumption) ?_
            rotate_left
            · (intro w hSw; (try dsimp only at hSw); go_simp; try with_reducible rfl)
            try simp only [Act.put, List.setIfInBounds_toArray, List.set_cons_zero, List.set_cons_succ]
            refine wpAnyH_take (i := 4) (oi := Oper.mk _ _ _ _ _ _) (v := ?_) rfl (by kernel_rfl) (by kernel_rfl) (by kernel_rfl) (fun _ _ _ h => h) (Or.inl ⟨by rfl, ?_⟩) (by assumption) ?_
            rotate_left
            · (intro w hSw; (try dsimp only at hSw); go_simp; try with_reducible rfl)
            try simp only [Act.put, List.setIfInBounds_toArray, List.set_cons_zero, List.set_cons_succ]
            refine wpAnyH_take (i := 5) (oi := Oper.mk _ _ _ _ _ _) (v := ?_) rfl (by kernel_rfl) (by kernel_rfl) (by kernel_rfl) (fun _ _ _ h => h) (Or.inl ⟨by rfl, ?_⟩) (by assumption) ?_
            rotate_left
            · (intro w hSw; (try dsimp only at hSw); go_simp; try with_reducible rfl)
            try simp only [Act.put, List.setIfInBounds_toArray, List.set_cons_zero, List.set_cons_succ]
            refine wpAnyH_take (i := 6) (oi := Oper.mk _ _ _ _ _ _) (v := ?_) rfl (by kernel_rfl) (by kernel_rfl) (by kernel_rfl) (fun _ _ _ h => h) (Or.inl ⟨by rfl, ?_⟩) (by assumption) ?_
            rotate_left
            · (intro w hSw; (try dsimp only at hSw); go_simp; try with_reducible rfl)
            try simp only [Act.put, List.setIfInBounds_toArray, List.set_cons_zero, List.set_cons_succ]
            refine wpAnyH_take (i := 7) (oi := Oper.mk _ _ _ _ _ _) (v := ?_) rfl (by kernel_rfl) (by kernel_rfl) (by kernel_rfl) (fun _ _ _ h => h) (Or.inl ⟨by rfl, ?_⟩) (by assumption) ?_
            rotate_left
            · (intro w hSw; (try dsimp only at hSw); go_simp; try with_reducible rfl)
            try simp only [Act.put, List.setIfInBounds_toArray, List.set_cons_zero, List.set_cons_succ]
            refine wpAnyH_take (i := 8) (oi := Oper.mk _ _ _ _ _ _) (v := ?_) rfl (by kernel_rfl) (by kernel_rfl) (by kernel_rfl) (fun _ _ _ h => h) (Or.inl ⟨by rfl, ?_⟩) (by assumption) ?_
            rotate_left
            · (intro w hSw; (try dsimp only at hSw); go_simp; try with_reducible rfl)
            try simp only [Act.put, List.setIfInBounds_toArray, List.set_cons_zero, List.set_cons_succ]
            refine wpAnyH_take (i := 9) (oi := Oper.mk _ _ _ _ _ _) (v := ?_) rfl (by kernel_rfl) (by kernel_rfl) (by kernel_rfl) (fun _ _ _ h => h) (Or.inl ⟨by rfl, ?_⟩) (by assumption) ?_
            rotate_left
            · (intro w hSw; (try dsimp only at hSw); go_simp; try with_reducible rfl)
            try simp only [Act.put, List.setIfInBounds_toArray, List.set_cons_zero, List.set_cons_succ]
            refine wpAnyH_take (i := 10) (oi := Oper.mk _ _ _ _ _ _) (v := ?_) rfl (by kernel_rfl) (by kernel_rfl) (by kernel_rfl) (fun _ _ _ h => h) (Or.inl ⟨by rfl, ?_⟩) (by assumption) ?_
            rotate_left
            · (intro w hSw; (try dsimp only at hSw); go_simp; try with_reducible rfl)
            try simp only [Act.put, List.setIfInBounds_toArray, List.set_cons_zero, List.set_cons_succ]
            refine wpAnyH_take (i := 11) (oi := Oper.mk _ _ _ _ _ _) (v := ?_) rfl (by kernel_rfl) (by kernel_rfl) (by kernel_rfl) (fun _ _ _ h => h) (Or.inl ⟨by rfl, ?_⟩) (by assumption) ?_
            rotate_left
            · (intro w hSw; (try dsimp only at hSw); go_simp; try with_reducible rfl)
            try simp only [Act.put, List.setIfInBounds_toArray, List.set_cons_zero, List.set_cons_succ]
            refine wpAnyH_take (i := 12) (oi := Oper.mk _ _ _ _ _ _) (v := ?_) rfl (by kernel_rfl) (by kernel_rfl) (by kernel_rfl) (fun _ _ _ h => h) (Or.inl ⟨by rfl, ?_⟩) (by assumption) ?_
            rotate_left
            · (intro w hSw; (try dsimp only at hSw); go_simp; try with_reducible rfl)
            try simp only [Act.put, List.setIfInBounds_toArray, List.set_cons_zero, List.set_cons_succ]
            refine wpAnyH_take (i := 13) (oi := Oper.mk _ _ _ _ _ _) (v := ?_) rfl (by kernel_rfl) (by kernel_rfl) (by kernel_rfl) (fun _ _ _ h => h) (Or.inl ⟨by rfl, ?_⟩) (by assumption) ?_
            rotate_left
            · (intro w hSw; (try dsimp only at hSw); go_simp; try with_reducible rfl)
            try simp only [Act.put, List.setIfInBounds_toArray, List.set_cons_zero, List.set_cons_succ]
            refine wpAnyH_take (i := 14) (oi := Oper.mk _ _ _ _ _ _) (v := ?_) rfl (by kernel_rfl) (by kernel_rfl) (by kernel_rfl) (fun _ _ _ h => h) (Or.inl ⟨by rfl, ?_⟩) (by assumption) ?_
            rotate_left
            · (intro w hSw; (try dsimp only at hSw); go_simp; try with_reducible rfl)
            try simp only [Act.put, List.setIfInBounds_toArray, List.set_cons_zero, List.set_cons_succ]
            refine wpAnyH_take (i := 15) (oi := Oper.mk _ _ _ _ _ _) (v := ?_) rfl (by kernel_rfl) (by kernel_rfl) (by kernel_rfl) (fun _ _ _ h => h) (Or.inl ⟨by rfl, ?_⟩) (by assumption) ?_
            rotate_left
            · (intro w hSw; (try dsimp only at hSw); go_simp; try with_reducible rfl)
            try simp only [Act.put, List.setIfInBounds_toArray, List.set_cons_zero, List.set_cons_succ]
            refine wpAnyH_done (by kernel_rfl) ?_ _
            clear hHeld
            go_wp2_with fail
            go_ret
            exact ⟨great_c, HBW.out.drew⟩
        · obtain rfl : k = a.params.length := by omega
          have HF2 := Lib.hid (show ∀ p ∈ a.params, p.1.size + p.2.size ≤ 400 by have h := HT.out; rw [List.take_length] at h; exact h)
          go_wp2_with fail
          clear n0 n1 n2 n3 n4 n5 n6 n7 nf hla hlt HT HBW
          have HB2 := Lib.hid HBr.out
          clear HBr
          rename World => wr2
          go_loopw [5] (fun v wr => ∃ k : Nat, k ≤ a.terms.length ∧ v = .int .i64 k ∧ (∀ p ∈ a.terms.take k, p.full < 4000) ∧ Below w2.heap.size w2 wr) (fun v _ => a.terms.length - (intOf v).toNat)
          case atStart => exact ⟨0, Nat.zero_le _, rfl, fun p hp => by simp at hp, HB2.out⟩
          case round =>
            obtain ⟨k, hk, rfl, ht, hb⟩ := hrel
            have HT := Lib.hid ht
            have HBr := Lib.hid hb
            have HBW := Lib.hid (HBx.out.trans (hb.mono HBx.out.size))
            obtain ⟨n0, n1, n2, n3, n4, n5, n6, n7, nf⟩ := eight_cells ((hb.block _ (lt_of_block NA.out)).trans NA.out)
            have hla := Nat.lt_of_lt_of_le (lt_of_block NA.out) hb.size
            clear ht hb
            by_cases hlt : k < a.terms.length
            · have hlt2 : (k : Int) < (a.terms.length : Int) := by omega
              have hyk := List.getElem?_eq_getElem hlt
              generalize a.terms[k] = x at hyk
              obtain ⟨b1, o1, A', c', hA, hbl, g0, g1, g2, hra⟩ := sexp_cells (HA.out.terms.on SexpR.lasts HBW.out) hyk
              subst hA
              have HG := Lib.hid (greatx_any hra)
              have HD := Lib.hid (fun W (hW : Below wr.heap.size wr W) => rdepth_any _ x (Nat.lt_succ_self _) W A' c' (SexpR.lasts _ _ _ _ hW hra))
              have HC2 := Lib.hid (fun W (hW : Below wr.heap.size wr W) => show (W.cell? ⟨w.heap.size, 7, none⟩ = some (.slice (some ⟨b1, o1, none⟩) a.terms.length c4) ∧ W.cell? ⟨b1, o1 + k * 3, none⟩ = some (.int .i8 x.kind)) ∧ W.cell? ⟨b1, o1 + k * 3 + 1, none⟩ = some (.string x.text) ∧ W.cell? ⟨b1, o1 + k * 3 + 2, none⟩ = some (.slice A' x.l.length c') from
                ⟨⟨(hW.cell (p := ⟨_, 7, none⟩) hla).trans n7, (hW.cell (p := ⟨b1, o1 + k * 3, none⟩) hbl).trans g0⟩, (hW.cell (p := ⟨b1, o1 + k * 3 + 1, none⟩) hbl).trans g1, (hW.cell (p := ⟨b1, o1 + k * 3 + 2, none⟩) hbl).trans g2⟩)
              have HYk := Lib.hid hyk
              clear hra hyk
              go_wp2_with fail
              refine HG.out.mono ?_
              rintro e w3 ⟨⟨gb, rfl, hgb⟩, hb3⟩
              have HB3 := Lib.hid (HBr.out.trans (hb3.mono HBr.out.size))
              have HBW3 := Lib.hid (HBx.out.trans (HB3.out.mono HBx.out.size))
              have HD3 := Lib.hid (HD.out w3 hb3)
              clear n0 n1 n2 n3 n4 n5 n6 n7 nf g0 g1 g2
              obtain ⟨⟨n7, g0⟩, g1, g2⟩ := HC2.out w3 hb3
              clear hb3
              cases gb with
              | true =>
                go_wp2_with fail
                go_ret
                exact ⟨great_c, HBW3.out⟩
              | false =>
                have HN := Lib.hid (all_take HYk.out HT.out (hgb rfl))
                clear hgb
                go_wp2_with fail
                refine HD3.out.mono ?_
                rintro e w4 ⟨rfl, hb4⟩
                have HB4 := Lib.hid (HB3.out.trans (hb4.mono HB3.out.size))
                have HBW4 := Lib.hid (HBx.out.trans (HB4.out.mono HBx.out.size))
                clear hb4 n7 g0 g1 g2
                by_cases hd9 : (90 : Int) < (x.depth : Int)
                · have hd : decide ((90 : Int) < (x.depth : Int)) = true := decide_eq_true hd9
                  have hd' : decide ((x.depth : Int) > 90) = true := decide_eq_true hd9
                  go_wp2_with fail
                  go_ret
                  exact ⟨great_c, HBW4.out⟩
                · have hd : decide ((90 : Int) < (x.depth : Int)) = false := decide_eq_false hd9
                  have hd' : decide ((x.depth : Int) > 90) = false := decide_eq_false hd9
                  go_wp2_with fail
                  go_roundw
                  case rel => exact ⟨k + 1, by omega, by go_num, HN.out, HB4.out⟩
                  case measure => simp [intOf]; omega
            · obtain rfl : k = a.terms.length := by omega
              have HF3 := Lib.hid (show ∀ p ∈ a.terms, p.full < 4000 by have h := HT.out; rw [List.take_length] at h; exact h)
              have HR := Lib.hid (show GreatC a (.returned (.bool false)) from ⟨false, rfl, fun _ => ⟨HC.out.1, HC.out.2.1, HC.out.2.2.1, HC.out.2.2.2.1, HC.out.2.2.2.2, HF1.out, HF2.out, HF3.out⟩⟩)
              go_wp2_with fail
              go_ret
              exact ⟨HR.out, HBW.out⟩
end Go.Proofs.YtbchcipjpcdhfaaGreatDoor.Cm
