import Derived.Test.YtbchcipjpcdhfaaGreatDoorMf
import Derived.Test.YtbchcipjpcdhfaaGreatDoorMd
import Derived.Test.YtbchcipjpcdhfaaGreatDoorBase
import Derived.Deep.RegionHeld3
import Derived.Test.YtbchcipjpcdhfaaGreatDoorMa
import Derived.Lib.ItoaLen
/- merged by wip/merge.py from: CmdNames HeldM CmdWords CmdLists -/
/- The reader's names: so many symbols. -/
namespace Go.Proofs.YtbchcipjpcdhfaaGreatDoor.Cm
open Go.RowKit Go.Proofs.YtbchcipjpcdhfaaGreatDoor.Dt

theorem info_str : (Tryz.prog.info? 9).map (fun i => (i.zero, i.size, i.bytes)) = some (some (.string { data := #[] }), 1, 16) := by kernel_rfl
theorem shape_of_owns {w : World} {B n s : Nat} {t : TypeId} {v : Value} {xs : List Value} (h : w.ownsRow B t s v n xs) : ∃ A c, v = .slice A n c := by
  rcases h.2 with ⟨rfl, rfl⟩ | ⟨g, cap, cur, rfl, _⟩
  · exact ⟨none, 0, rfl⟩
  · exact ⟨_, cap, rfl⟩
theorem owns_keep {S : Nat → Prop} {w w' : World} {B m n : Nat} {t : TypeId} {v : Value} {xs : List Value} (h : w.ownsRow B t m v n xs) (hk : Keeps S w w') (hS : ∀ k, S k → k < B) : w'.ownsRow B t m v n xs := by
  refine ⟨h.1, ?_⟩
  rcases h.2 with h1 | ⟨g, cap, cur, h1, h2, h3, h4⟩
  · exact .inl h1
  · exact .inr ⟨g, cap, cur, h1, h2, (hk.block g (lt_of_block h3) (fun hs => by have := hS g hs; omega)).trans h3, h4⟩
theorem ParB.grown {w w' : World} {pb : Nat} {L : Value} {cv : Nat → Value} {b : Bool} {row : Option Nat} (h : ParB w pb L cv b) (hg : w.grownBy w' row) (hne : row ≠ some pb) : ParB w' pb L cv b := by
  obtain ⟨cs, h1, h2⟩ := h.block
  exact ⟨cs, by rw [hg.block _ (lt_of_block h1) (fun e => hne e.symm)]; exact h1, h2⟩
section
variable {α : Type} {n : Nat} {R : World → List Value → α → Prop} {t : TypeId} {w0 w w' : World} {base : Nat} {v : Value} {xs : List α}
theorem grows_keep {S : Nat → Prop} (h : Grows n R t w0 base w v xs) (hk : Keeps S w w') (hS : ∀ k, S k → k < base) : Grows n R t w0 base w' v xs := by
  obtain ⟨vals, ho, hr⟩ := h.row
  refine ⟨vals, ⟨ho.1, ?_⟩, hr⟩
  rcases ho.2 with h1 | ⟨g, cap, cur, h1, h2, h3, h4⟩
  · exact .inl h1
  · exact .inr ⟨g, cap, cur, h1, h2, (hk.block g (lt_of_block h3) (fun hs => by have := hS g hs; omega)).trans h3, h4⟩
theorem grows_new {A : Option Addr} {c : Nat} (hR : Flat R) (h : Grows n R t w0 base w (.slice A xs.length c) xs) : NewLies n R base w A xs := by
  obtain ⟨vals, ho, hr⟩ := h.row
  rcases ho.2 with ⟨h1, h2⟩ | ⟨g, cap, cur, h1, hg, hat, h2, h3, h4, h5⟩
  · exact .inl (List.length_eq_zero_iff.1 h2)
  · simp only [Value.slice.injEq] at h1
    refine .inr ⟨g, 0, h1.1, hg, (Array.getElem?_eq_some_iff.1 hat).1, fun i x hx => ?_⟩
    obtain ⟨vs, e1, e2, e3⟩ := hr i x hx
    refine ⟨vs, e1, fun j u hu => ?_, hR _ _ _ _ e2⟩
    rw [Nat.zero_add, cell_of_row w g (i * n + j) cur t (0, 0) hat]
    have := e3 j u hu
    rw [← h5, List.getElem?_take] at this
    split at this
    · simpa using this
    · cases this
end
/-- those that are read -/
def okL (b : Bool) (x : Sexp) (lo hi : Nat) : List Sexp := if b || !sized x lo hi then [] else x.l
def noSym (y : Sexp) : Bool := !decide (y.kind = 0)
def NamesPost (w : World) (pb : Nat) (L : Value) (cv : Nat → Value) (b : Bool) (ys : List Sexp) (e : Ending) (w' : World) : Prop :=
  ∃ A' c', (e = .returned (.slice A' ys.length c') ∧ ys.length ≤ c' ∧ c' ≤ maxLen) ∧ NewLies 1 StrR w.heap.size w' A' (ys.map Sexp.text) ∧ ParB w' pb L cv (b || ys.any noSym) ∧ KeepP pb w w'
theorem any_take {f : Sexp → Bool} {ys : List Sexp} {k : Nat} {y : Sexp} (h : ys[k]? = some y) : (ys.take (k + 1)).any f = ((ys.take k).any f || f y) := by
  rw [List.take_add_one, h]; simp
theorem map_take' {β : Type} {f : Sexp → β} {ys : List Sexp} {k : Nat} {y : Sexp} (h : ys[k]? = some y) : (ys.take (k + 1)).map f = (ys.take k).map f ++ [f y] := by
  rw [List.take_add_one, h]; simp
set_option maxHeartbeats 3200000 in
theorem names_any {W0 w : World} {pb : Nat} {L : Value} {cv : Nat → Value} {b : Bool} (h : ParB w pb L cv b) (x : Sexp) (A : Option Addr) (c : Nat) (hr : SexpR W0 [.int .i8 x.kind, .string x.text, .slice A x.l.length c] x) (hb : Below W0.heap.size W0 w) (hp : W0.heap.size ≤ pb) (lo hi : Nat) :
    Calls Tryz.prog 55 #[ptrP pb, agS x A c, .int .i64 lo, .int .i64 hi] w (NamesPost w pb L cv (b || !sized x lo hi) (okL b x lo hi)) := by
  obtain ⟨_, _, e, hl, _, _, _, hlb, _⟩ := hr.open'
  simp only [List.cons.injEq, Value.slice.injEq, and_true, true_and] at e
  obtain ⟨rfl, rfl⟩ := e
  have HLt := Lib.hid h.lt
  have HS := Lib.hid (fun W (hW : ParB W pb L cv b) => list_any hW x A c lo hi (by omega))
  have HY := Lib.hid (fun W cv b (hW : ParB W pb L cv b) y A' c' => symbol_any hW y A' c')
  obtain ⟨Av, cw, hV, hlv, hll⟩ : ∃ Av cw, (if b || !sized x lo hi then .slice none 0 0 else .slice A x.l.length c : Value) = .slice Av (okL b x lo hi).length cw ∧ Lies 3 SexpR W0 Av (okL b x lo hi) ∧ (okL b x lo hi).length ≤ 4398046511104 := by
    unfold okL
    split
    · exact ⟨none, 0, rfl, .inl rfl, Nat.zero_le _⟩
    · exact ⟨A, c, rfl, hl, by omega⟩
  have HV := Lib.hid hV
  have HL := Lib.hid hlv
  have HBW := Lib.hid hb
  have HP1 := Lib.hid (h.below ((Below.refl _ _).alloc (Nat.le_refl _) (.cells #[.int .i8 x.kind, .string x.text, .slice A x.l.length c] 25)))
  have HK1 := Lib.hid (show KeepP pb w (w.alloc (.cells #[.int .i8 x.kind, .string x.text, .slice A x.l.length c] 25)) from (Keeps.refl _ _).alloc _)
  clear h hr hl hb hV hlv
  generalize okL b x lo hi = ys at *
  generalize (b || !sized x lo hi) = q at *
  unfold agS ptrP at *
  have HLen := Lib.hid hll
  clear hll hlb
  generalize x.kind = xk at *
  generalize x.text = xt at *
  generalize x.l.length = xn at *
  go_enter Tryz.func55, Tryz.ntmps55
  go_wp2_with fail
  refine (HS.out _ HP1.out).mono ?_
  rintro e w1 ⟨rfl, h1, k1⟩
  rw [HV.out]
  have P1 := Lib.hid h1
  have K1 := Lib.hid (HK1.out.trans_same k1)
  obtain ⟨i0, hi0, z0, z1, z2⟩ := info_parts info_str
  have I0 := Lib.hid hi0
  have I1 := Lib.hid z0
  have I2 := Lib.hid z1
  have I3 := Lib.hid z2
  clear h1 k1 hi0 z0 z1 z2
  go_wp2_with fail
  go_loopw [8, 17] (fun v' i' wr => ∃ k : Nat, k ≤ ys.length ∧ i' = .int .i64 k ∧ Grows 1 StrR 9 W0 w.heap.size wr v' ((ys.take k).map Sexp.text) ∧ ParB wr pb L cv (q || (ys.take k).any noSym) ∧ KeepP pb w wr) (fun _ i' _ => ys.length - (intOf i').toNat)
  case atStart => exact ⟨0, Nat.zero_le _, rfl, Grows.nil _, by simpa using P1.out, K1.out⟩
  case round =>
    obtain ⟨k, hk, rfl, hg, hpr, hkp⟩ := hrel
    have HG := Lib.hid hg
    have HPr := Lib.hid hpr
    have HKp := Lib.hid hkp
    obtain ⟨vals, ho, hrr⟩ := hg.row
    have hlk : ((ys.take k).map Sexp.text).length = k := by simp; omega
    have hvl : vals.length = ((ys.take k).map Sexp.text).length * 1 := ho.1
    rw [hlk] at ho
    obtain ⟨Ao, co, rfl⟩ := shape_of_owns ho
    have HOw := Lib.hid ho
    have HRr := Lib.hid hrr
    have HLk := Lib.hid hlk
    have HVl := Lib.hid hvl
    clear hg hpr ho hrr hlk hvl
    by_cases hlt : k < ys.length
    · have hlt2 : (k : Int) < (ys.length : Int) := by omega
      have hyk := List.getElem?_eq_getElem hlt
      generalize ys[k] = y at hyk
      have HBr := Lib.hid (HBW.out.trans (keepP_below hkp hp HBW.out.size))
      obtain ⟨bb, o, A2, c2, rfl, hbl, e0, e1, e2, hr2⟩ := sexp_cells (HL.out.on SexpR.lasts HBr.out) hyk
      have HSt := Lib.hid (show (y.text.size : Int) ≤ 140737488351232 by obtain ⟨_, _, _, _, _, _, h1, _⟩ := hr2.open'; exact h1)
      have HAn := Lib.hid (any_take (f := noSym) hyk)
      have HMp := Lib.hid (map_take' (f := Sexp.text) hyk)
      obtain ⟨q0, q1, q2, _⟩ := box_cells wr (.int .i8 y.kind) (.string y.text) (.slice A2 y.l.length c2) 25
      have HP2 := Lib.hid (HPr.out.below ((Below.refl _ _).alloc (Nat.le_refl _) (.cells #[.int .i8 y.kind, .string y.text, .slice A2 y.l.length c2] 25)))
      have HK2 := Lib.hid (show KeepP pb wr (wr.alloc (.cells #[.int .i8 y.kind, .string y.text, .slice A2 y.l.length c2] 25)) from (Keeps.refl _ _).alloc _)
      have HSz := Lib.hid hkp.size
      clear hkp hr2 hyk
      go_wp2_with fail
      refine (HY.out _ _ _ HP2.out y A2 c2).mono ?_
      rintro e w2 ⟨rfl, h2, k2⟩
      have K2 := Lib.hid (HK2.out.trans_same k2)
      have P2 := Lib.hid (h2.below ((Below.refl _ _).alloc (Nat.le_refl _) (.cells #[.string y.text] 9)))
      have HOw2 := Lib.hid (show World.ownsRow (w2.alloc (.cells #[.string y.text] 9)) w.heap.size 9 1 (.slice Ao k co) k vals from
        (owns_keep HOw.out K2.out (fun j hj => by subst hj; exact HLt.out)).alloc _)
      have HC := Lib.hid (Cells.new w2 [.string y.text] 9 (0, 0))
      have HSz2 := Lib.hid (Nat.le_trans HSz.out K2.out.size)
      clear h2 k2 q0 q1 q2 e0 e1 e2
      have hk48 : k < 4398046511104 := Nat.lt_of_lt_of_le hlt HLen.out
      go_wp2_with (at_builtin; refine wpList_append_at rfl (.tmp 21) (.tmp 25) _ rfl w.heap.size 9 i0 (.string { data := #[] }) 1 16 Tryz.underlying29 I0.out I1.out I2.out I3.out rfl (by decide) (.slice Ao k co) k vals rfl HOw2.out (some ⟨w2.heap.size, 0, none⟩) 1 1 [.string y.text] rfl rfl HC.out (by simp [Value.oneCell']) (by unfold maxLen; omega) (by omega) (by have := HSz2.out; simp; omega) ?_)
      intro v' w3 hown hgr hat
      have HG3 := Lib.hid (show Grows 1 StrR 9 W0 w.heap.size w3 v' ((ys.take (k + 1)).map Sexp.text) from by
        rw [HMp.out]
        exact Grows.push (vs := [.string y.text]) HVl.out HRr.out (by rw [HLk.out]; exact hown) ⟨rfl, HSt.out⟩ rfl)
      have HP3 := Lib.hid (P2.out.grown hgr (fun e => by have := (HOw2.out.lt pb e).1; have := HLt.out; omega))
      have HK3 := Lib.hid (show KeepP pb w w3 from ((HKp.out.trans_same K2.out).alloc _).grown hgr (fun j hj => .inr (HOw2.out.lt j hj).1))
      clear hown hgr hat
      go_wp2_with fail
      go_roundw
      case rel => exact ⟨k + 1, by omega, by go_num, HG3.out, by rw [HAn.out, ← Bool.or_assoc]; exact HP3.out, HK3.out⟩
      case measure => simp [intOf]; omega
    · obtain rfl : k = ys.length := by omega
      have HNL := Lib.hid (show NewLies 1 StrR w.heap.size wr Ao (ys.map Sexp.text) from grows_new (n := 1) (t := 9) (w0 := W0) (c := co) strR_flat (by
        have h := HG.out
        rw [List.take_length] at h
        rw [List.length_map]; exact h))
      have HSh := Lib.hid (show ys.length ≤ co ∧ co ≤ maxLen by
        obtain ⟨A9, c9, e, h1, h2⟩ := HG.out.shape
        simp only [Value.slice.injEq] at e
        obtain ⟨_, _, rfl⟩ := e
        rw [HLk.out] at h1
        exact ⟨h1, h2⟩)
      have HPe := Lib.hid (show ParB wr pb L cv (q || ys.any noSym) by have h := HPr.out; rw [List.take_length] at h; exact h)
      clear hkp
      go_wp2_with fail
      go_ret
      exact ⟨Ao, co, ⟨rfl, HSh.out⟩, HNL.out, HPe.out, HKp.out⟩
end Go.Proofs.YtbchcipjpcdhfaaGreatDoor.Cm
/- A region that draws its order and ends in one store (number m): a condition on the world that holds up to that store. No condition. -/
namespace Go.Proofs.YtbchcipjpcdhfaaGreatDoor
open Go.RowKit

section
variable {P : Program} {ops : Array Oper} {Q : Exit → Act → World → Prop} {md : Region.Mode} {S : World → Prop} {m : Nat}
/-- whatever order is picked, S holds behind each operation that is carried out, but for number m -/
def wpTo (P : Program) (md : Region.Mode) (ops : Array Oper) (Q : Exit → Act → World → Prop) (S : World → Prop) (m : Nat) : Nat → Array Bool → Act → World → Prop
  | 0, listed, a, w => Region.ready md ops listed = [] ∧ Q .normal a w
  | fuel + 1, listed, a, w => (Region.ready md ops listed = [] → Q .normal a w) ∧
      ∀ i ∈ Region.ready md ops listed, wpOp P ops Q i (fun a' w' => (i ≠ m → S w') ∧ wpTo P md ops Q S m fuel (listed.setIfInBounds i true) a' w') a w
theorem wpAny_of_to : ∀ (fuel : Nat) (listed : Array Bool) (a : Act) (w : World), wpTo P md ops Q S m fuel listed a w → wpAny P md ops Q fuel listed a w
  | 0, _, _, _, h => h
  | fuel + 1, _, _, _, h => ⟨h.1, fun i hi => wpOp_mono (fun a' w' h' => wpAny_of_to fuel _ a' w' h'.2) (h.2 i hi)⟩
theorem wpTo_first {i : Nat} {oi om : Oper} {v : Value} (hi : ops[i]? = some oi) (hom : ops[m]? = some om) (hwait : ∃ e ∈ om.after, Region.binds md e = true ∧ e.on = i)
    (hsel : ∀ (j : Nat) (o : Oper) cs b, ops[j]? = some o → o.op ≠ .select cs b) (hQ : ∀ c a w, Q (.panic c) (a.put oi.dst v) w → Q (.panic c) a w) :
    ∀ (fuel : Nat) (listed : Array Bool) (a : Act) (w : World),
      (∀ j oj, ops[j]? = some oj → j ≠ i → listed.getD j true = false → (∀ e ∈ oj.after, Region.binds md e = true → e.on ≠ i) → oi.apart ops oj = true) →
      i ∈ Region.ready md ops listed → YieldsIf P ops S oi v a → S w → i ≠ m →
      wpTo P md ops Q S m fuel (listed.setIfInBounds i true) (a.put oi.dst v) w → wpTo P md ops Q S m (fuel + 1) listed a w := by
  intro fuel
  induction fuel with
  | zero =>
    intro listed a w _ hr hy hS him H
    refine ⟨fun h => (by rw [h] at hr; cases hr), fun j hj => ?_⟩
    by_cases hji : j = i
    · subst hji; exact hy.wpOp hi hS ⟨fun _ => hS, H⟩
    · have := ready_mono hj hji
      rw [H.1] at this
      cases this
  | succ fuel ih =>
    intro listed a w hfree hr hy hS him H
    refine ⟨fun h => (by rw [h] at hr; cases hr), fun j hj => ?_⟩
    by_cases hji : j = i
    · subst hji; exact hy.wpOp hi hS ⟨fun _ => hS, H⟩
    · have h1 := H.2 j (ready_mono hj hji)
      obtain ⟨hjun, oj, hoj, hall⟩ := mem_ready.1 hj
      have hnot : ∀ e ∈ oj.after, Region.binds md e = true → e.on ≠ i := fun e he hb heq => by
        have h1 := hall e he hb
        have h0 := (mem_ready.1 hr).1
        rw [heq] at h1
        rcases Nat.lt_or_ge i listed.size with h' | h'
        · simp [h'] at h0 h1; rw [h0] at h1; cases h1
        · simp [Array.getElem?_eq_none h'] at h1
      have hjm : j ≠ m := by
        rintro rfl
        rw [hoj] at hom
        obtain rfl := Option.some.inj hom
        obtain ⟨e, he, hb, hon⟩ := hwait
        exact hnot e he hb hon
      have h2 := wpOp_putIf hoj (hfree j oj hoj hji hjun hnot) (fun cs b => hsel i oi cs b hi) (fun cs b => hsel j oj cs b hoj) hQ hy h1
      have hfree' : ∀ k ok, ops[k]? = some ok → k ≠ i → (listed.setIfInBounds j true).getD k true = false →
          (∀ e ∈ ok.after, Region.binds md e = true → e.on ≠ i) → oi.apart ops ok = true := fun k ok hk hki hun hno => by
        refine hfree k ok hk hki ?_ hno
        by_cases hjk : j = k
        · subst hjk; exact hjun
        · rw [getD_set_ne true hjk] at hun; exact hun
      refine wpOp_mono (fun a' w' h3 => ⟨h3.2.1, ih (listed.setIfInBounds j true) a' w' hfree' (ready_mono hr (Ne.symm hji)) h3.1 (h3.2.1 hjm) him ?_⟩) h2
      rw [Array.setIfInBounds_comm _ _ hji]
      exact h3.2.2
/-- number m waits for number i -/
def waitsFor (md : Region.Mode) (ops : Array Oper) (m i : Nat) : Bool := (ops[m]?.map fun o => o.after.any fun e => Region.binds md e && e.on == i) == some true && i != m
theorem wpTo_take {i : Nat} {oi : Oper} {v : Value} {fuel : Nat} {listed : Array Bool} {a : Act} {w : World} (hi : ops[i]? = some oi)
    (hs : Region.noSelect ops = true) (hf : Region.free md ops listed i = true) (hr : (Region.ready md ops listed).contains i = true) (hw : waitsFor md ops m i = true)
    (hQ : ∀ c a w, Q (.panic c) (a.put oi.dst v) w → Q (.panic c) a w) (hy : YieldsIf P ops S oi v a) (hS : S w)
    (h : wpTo P md ops Q S m fuel (listed.setIfInBounds i true) (a.put oi.dst v) w) : wpTo P md ops Q S m (fuel + 1) listed a w := by
  unfold waitsFor at hw
  rw [Bool.and_eq_true] at hw
  obtain ⟨hw1, hw2⟩ := hw
  cases hom : ops[m]? with
  | none => rw [hom] at hw1; cases hw1
  | some om =>
    rw [hom] at hw1
    have hw3 : (om.after.any fun e => Region.binds md e && e.on == i) = true := by simpa using hw1
    obtain ⟨k, hk, hq⟩ := Array.any_eq_true.1 hw3
    rw [Bool.and_eq_true] at hq
    exact wpTo_first hi hom ⟨om.after[k], Array.getElem_mem hk, hq.1, by simpa using hq.2⟩ (Region.noSelect_spec hs) hQ fuel listed a w (Region.free_spec hi hf) (by simpa using hr) hy hS (by simpa using hw2) h
/-- the one operation that may come up -/
theorem wpTo_step {i : Nat} {o : Oper} {fuel : Nat} {listed : Array Bool} {a : Act} {w : World} (hr : Region.ready md ops listed = [i]) (ho : ops[i]? = some o)
    (h : ∀ K' : Act → World → Prop, Shut (∀ a w, S w → (S w → wpTo P md ops Q S m fuel (listed.setIfInBounds i true) a w) → K' a w) → if Region.wanted o (yielded ops a.tmps) = true then Oper.wp P o a w K' Q else K' (a.put o.dst undef) w) :
    wpTo P md ops Q S m (fuel + 1) listed a w := by
  refine ⟨fun h0 => (by rw [hr] at h0; cases h0), fun j hj => ?_⟩
  rw [hr] at hj
  obtain rfl : j = i := by simpa using hj
  exact wpOp_step ho (fun K' hK => h K' (fun a w hS hW => hK a w ⟨fun _ => hS, hW hS⟩))
/-- number m itself -/
theorem wpTo_last {o : Oper} {fuel : Nat} {listed : Array Bool} {a : Act} {w : World} (hr : Region.ready md ops listed = [m]) (ho : ops[m]? = some o)
    (h : ∀ K' : Act → World → Prop, Shut (∀ a w, wpTo P md ops Q S m fuel (listed.setIfInBounds m true) a w → K' a w) → if Region.wanted o (yielded ops a.tmps) = true then Oper.wp P o a w K' Q else K' (a.put o.dst undef) w) :
    wpTo P md ops Q S m (fuel + 1) listed a w := by
  refine ⟨fun h0 => (by rw [hr] at h0; cases h0), fun j hj => ?_⟩
  rw [hr] at hj
  obtain rfl : j = m := by simpa using hj
  exact wpOp_step ho (fun K' hK => h K' (fun a w hW => hK a w ⟨fun hn => absurd rfl hn, hW⟩))
theorem wpTo_done {listed : Array Bool} {a : Act} {w : World} (hr : Region.ready md ops listed = []) (h : Q .normal a w) : ∀ fuel, wpTo P md ops Q S m fuel listed a w
  | 0 => ⟨hr, h⟩
  | _ + 1 => ⟨fun _ => h, by rw [hr]; simp⟩
theorem wp_region_to {id : Nat} {a : Act} {w : World} (hm : P.follows .mixedOrders = true) (S : World → Prop) (m : Nat) (hS : S w.drew)
    (h : S w.drew → wpTo P .any ops Q S m ops.size (Array.replicate ops.size false) a w.drew) : (Code.region id ops true).wp P Q a w :=
  wp_region_any hm (wpAny_of_to _ _ _ _ (h hS))
end
end Go.Proofs.YtbchcipjpcdhfaaGreatDoor
/- Words of a written command: a symbol, a numeral, a list, a list of symbols. -/
namespace Go.Proofs.YtbchcipjpcdhfaaGreatDoor.Cm
open Go.RowKit Go.Proofs.YtbchcipjpcdhfaaGreatDoor.Dt

theorem info_sexp : (Tryz.prog.info? 25).map (fun i => (i.zero, i.size, i.bytes)) = some (some (.agg #[.int .i8 0, .string { data := #[] }, .slice none 0 0]), 3, 48) := by kernel_rfl
theorem sexp_ret {f : Func} {w : World} {b : Nat} {r0 r1 r2 : Value} {act : Act} {t : TypeId} {R : Ending → World → Prop} (hf : f.results = #[.cell 2 25]) (hb : w.heap[b]? = some (.cells #[r0, r1, r2] t (0, 0))) (h2 : act.tmps[2]? = some (.pointer (some ⟨b, 0, none⟩))) (hd : act.defers = []) (hR : R (.returned (.agg #[r0, r1, r2])) w) :
    bodyPost Tryz.prog f R .ret act w := by
  obtain ⟨y0, y1, y2, _⟩ := three_cells hb
  refine bodyPost_ret (v := .agg #[r0, r1, r2]) ?_ hd hR
  simp [results, hf, go_sem, y0, y1, y2, h2]
theorem sym_any (s : ByteArray) (w : World) : Calls Tryz.prog 67 #[.string s] w fun e w' => e = .returned (.agg #[.int .i8 0, .string s, .slice none 0 0]) ∧ Below w.heap.size w w' := by
  go_enter Tryz.func67, Tryz.ntmps67
  go_wp2_with fail
  exact sexp_ret Tryz.results67 (blk_new _ _) rfl rfl ⟨rfl, (Below.refl _ _).alloc (Nat.le_refl _) _⟩
theorem clist_any (A : Option Addr) (n c : Nat) (w : World) : Calls Tryz.prog 66 #[.slice A n c] w fun e w' => e = .returned (.agg #[.int .i8 3, .string { data := #[] }, .slice A n c]) ∧ Below w.heap.size w w' := by
  go_enter Tryz.func66, Tryz.ntmps66
  go_wp2_with fail
  exact sexp_ret Tryz.results66 (blk_new _ _) rfl rfl ⟨rfl, (Below.refl _ _).alloc (Nat.le_refl _) _⟩
theorem numeral_any (n : Int) (hn : I64 n) (w : World) (ht : TabOk w) : Calls Tryz.prog 68 #[.int .i64 n] w fun e w' => e = .returned (.agg #[.int .i8 1, .string ⟨(textL n).toArray⟩, .slice none 0 0]) ∧ Below w.heap.size w w' := by
  have HT := Lib.hid (text_any n hn (w.alloc (.cells #[.int .i8 0, .string { data := #[] }, .slice none 0 0] 25)) (ht.on ((Below.refl _ _).alloc (Nat.le_refl _) _)))
  have HZ := Lib.hid (blk_new w (.cells #[.int .i8 0, .string { data := #[] }, .slice none 0 0] 25))
  clear ht
  go_enter Tryz.func68, Tryz.ntmps68
  go_wp2_with fail
  refine HT.out.mono ?_
  rintro e w1 ⟨rfl, hb⟩
  have HB := Lib.hid (((Below.refl w.heap.size w).alloc (Nat.le_refl _) (.cells #[.int .i8 0, .string { data := #[] }, .slice none 0 0] 25)).trans (hb.mono (by simp)))
  have HZ1 := Lib.hid ((hb.block _ (lt_of_block HZ.out)).trans HZ.out)
  obtain ⟨z0, z1, z2, zf⟩ := three_cells HZ1.out
  clear hb
  go_wp2_with fail
  exact sexp_ret (w := set3 w1 w.heap.size (.int .i8 1) (.string ⟨(textL n).toArray⟩) (.slice none 0 0)) Tryz.results68 (three_set HZ1.out _ _ _) rfl rfl ⟨rfl, (set3_keeps (S := fun _ => False) (Keeps.of_below HB.out _) (.inr (Nat.le_refl _)) _ _ _).none_below⟩
theorem str_size {w : World} {A : Option Addr} {l : List ByteArray} (h : Lies 1 StrR w A l) {k : Nat} (hk : k < l.length) : ((l.getD k noS).size : Int) ≤ 140737488351232 := by
  obtain ⟨b, o, vs, hA, _, _, hc, hr⟩ := h.at' (List.getElem?_eq_getElem hk)
  rw [List.getD_eq_getElem?_getD, List.getElem?_eq_getElem hk]
  exact hr.2
/-- a symbol that stands in a row -/
def SymR (_ : World) (vs : List Value) (s : ByteArray) : Prop := vs = [.int .i8 0, .string s, .slice none 0 0] ∧ (s.size : Int) ≤ 140737488351232
theorem symR_flat : Flat SymR := fun _ _ _ _ h => h
theorem NewLies.mono {α : Type} {n B B' : Nat} {R : World → List Value → α → Prop} {w : World} {A : Option Addr} {xs : List α} (h : NewLies n R B w A xs) (hB : B' ≤ B) : NewLies n R B' w A xs :=
  h.imp_right fun ⟨b, o, h1, h2, h3⟩ => ⟨b, o, h1, Nat.le_trans hB h2, h3⟩
theorem take_snoc {α : Type} {l : List α} {k : Nat} {d : α} (h : k < l.length) : l.take (k + 1) = l.take k ++ [l.getD k d] := by
  rw [List.take_add_one, List.getD_eq_getElem?_getD, List.getElem?_eq_getElem h]; simp
def SymsPost (w : World) (l : List ByteArray) (e : Ending) (w' : World) : Prop :=
  ∃ A' c', (e = .returned (.agg #[.int .i8 3, .string { data := #[] }, .slice A' l.length c']) ∧ l.length ≤ c' ∧ c' ≤ maxLen) ∧ NewLies 3 SymR w.heap.size w' A' l ∧ Below w.heap.size w w'
set_option maxHeartbeats 3200000 in
theorem syms_any (l : List ByteArray) (A : Option Addr) (c : Nat) (w : World) (hl : Lies 1 StrR w A l) (h2 : l.length ≤ 1000000) : Calls Tryz.prog 65 #[.slice A l.length c] w (SymsPost w l) := by
  have HL := Lib.hid hl
  have HC := Lib.hid (fun W => clist_any none 0 0 W)
  have HS := Lib.hid (fun s W => sym_any s W)
  have HZ := Lib.hid (blk_new w (.cells #[.int .i8 0, .string { data := #[] }, .slice none 0 0] 25))
  obtain ⟨i0, hi0, z0, z1, z2⟩ := info_parts info_sexp
  have I0 := Lib.hid hi0
  have I1 := Lib.hid z0
  have I2 := Lib.hid z1
  have I3 := Lib.hid z2
  clear hi0 z0 z1 z2 hl
  go_enter Tryz.func65, Tryz.ntmps65
  go_wp2_with fail
  refine (HC.out _).mono ?_
  rintro e w1 ⟨rfl, hb1⟩
  have B1 := Lib.hid (((Below.refl w.heap.size w).alloc (Nat.le_refl _) (.cells #[.int .i8 0, .string { data := #[] }, .slice none 0 0] 25)).trans (hb1.mono (by simp)))
  have Z1 := Lib.hid ((hb1.block _ (lt_of_block HZ.out)).trans HZ.out)
  have M0 := Lib.hid (blk_new w1 (.cells #[.int .i8 3, .string { data := #[] }, .slice none 0 0] 25))
  have HNm := Lib.hid (show w.heap.size < w1.heap.size from lt_of_block Z1.out)
  have B2 := Lib.hid (B1.out.alloc B1.out.size (.cells #[.int .i8 3, .string { data := #[] }, .slice none 0 0] 25))
  have Z2 := Lib.hid ((Below.heap_alloc w1 (.cells #[.int .i8 3, .string { data := #[] }, .slice none 0 0] 25) _ (lt_of_block Z1.out)).trans Z1.out)
  clear hb1 HZ B1 Z1
  go_upto_region 2 with fail
  have HBs0 := Lib.hid (show w1.heap.size + 1 = (w1.alloc (.cells #[.int .i8 3, .string { data := #[] }, .slice none 0 0] 25)).heap.size by simp)
  generalize (w1.alloc (.cells #[.int .i8 3, .string { data := #[] }, .slice none 0 0] 25)) = w2 at *
  generalize hm : w1.heap.size = m at *
  clear hm
  generalize hbs : m + 1 = bs at *
  have HMb := Lib.hid (show m < bs by omega)
  clear hbs
  go_wp2_with fail
  go_loopw [9] (fun i' wr => ∃ k : Nat, k ≤ l.length ∧ i' = .int .i64 k ∧ ∃ v' : Value, Grows 3 SymR 25 w bs wr v' (l.take k) ∧ wr.heap[m]? = some (.cells #[.int .i8 3, .string { data := #[] }, v'] 25 (0, 0)) ∧ Keeps (fun j => j = m ∨ bs ≤ j) w2 wr) (fun i' _ => l.length - (intOf i').toNat)
  case atStart => exact ⟨0, Nat.zero_le _, rfl, .slice none 0 0, Grows.nil _, M0.out, Keeps.refl _ _⟩
  case round =>
    obtain ⟨k, hk, rfl, v', hg, hm, hkp⟩ := hrel
    have HG := Lib.hid hg
    have HM := Lib.hid hm
    have HKp := Lib.hid hkp
    obtain ⟨vals, ho, hrr⟩ := hg.row
    have hlk : (l.take k).length = k := by simp; omega
    have hvl : vals.length = (l.take k).length * 3 := ho.1
    rw [hlk] at ho
    obtain ⟨Ao, co, rfl⟩ := shape_of_owns ho
    have HOw := Lib.hid ho
    have HRr := Lib.hid hrr
    have HLk := Lib.hid hlk
    have HVl := Lib.hid hvl
    have HBr := Lib.hid (show Below w.heap.size w wr from B2.out.trans (hkp.below (fun j hj => by have := HNm.out; have := HMb.out; omega) B2.out.size))
    have HBs := Lib.hid (show bs ≤ wr.heap.size by have := HBs0.out; have := hkp.size; omega)
    clear hg hm ho hrr hlk hvl hkp
    by_cases hlt : k < l.length
    · have hlt2 : (k : Int) < (l.length : Int) := by omega
      obtain ⟨b, o, rfl, p0⟩ := str_get (HL.out.on StrR.lasts HBr.out) hlt
      have HSz := Lib.hid (str_size HL.out hlt)
      have HTk := Lib.hid (take_snoc (d := noS) hlt)
      generalize l.getD k noS = s at *
      go_wp2_with fail
      clear p0
      have PBx := Lib.hid (Below.refl wr.heap.size wr).drew
      have hMl := Lib.hid (lt_of_block HM.out)
      obtain ⟨q0, q1, q2, _⟩ := three_cells HM.out
      refine wp_region_to (by kernel_rfl) (fun W => W.cell? ⟨m, 2, none⟩ = some (.slice Ao k co)) 7 (q2) (fun hHeld => ?_)
      clear q0 q1 q2
      refine wpTo_take (i := 0) (oi := Oper.mk _ _ _ _ _ _) (v := ?_) rfl (by kernel_rfl) (by kernel_rfl) (by kernel_rfl) (by kernel_rfl) (fun _ _ _ h => h) (Or.inl ⟨by rfl, ?_⟩) (by assumption) ?_
      rotate_left
      · (intro w hSw; (try dsimp only at hSw); go_simp; try with_reducible rfl)
      try simp only [Act.put, List.setIfInBounds_toArray, List.set_cons_zero, List.set_cons_succ]
      refine wpTo_take (i := 1) (oi := Oper.mk _ _ _ _ _ _) (v := ?_) rfl (by kernel_rfl) (by kernel_rfl) (by kernel_rfl) (by kernel_rfl) (fun _ _ _ h => h) (Or.inl ⟨by rfl, ?_⟩) (by assumption) ?_
      rotate_left
      · (intro w hSw; (try dsimp only at hSw); go_simp; try with_reducible rfl)
      try simp only [Act.put, List.setIfInBounds_toArray, List.set_cons_zero, List.set_cons_succ]
      refine wpTo_take (i := 2) (oi := Oper.mk _ _ _ _ _ _) (v := ?_) rfl (by kernel_rfl) (by kernel_rfl) (by kernel_rfl) (by kernel_rfl) (fun _ _ _ h => h) (Or.inl ⟨by rfl, ?_⟩) (by assumption) ?_
      rotate_left
      · (intro w hSw; (try dsimp only at hSw); go_simp; try with_reducible rfl)
      try simp only [Act.put, List.setIfInBounds_toArray, List.set_cons_zero, List.set_cons_succ]
      refine wpTo_step (i := 3) (o := Oper.mk _ _ _ _ _ _) (by kernel_rfl) rfl (fun K hK => ?_)
      go_simp
      go_wp2_with (go_at_call 67; refine (HS.out s _).mono ?_; rintro e w8 ⟨rfl, hb8⟩; have B8 := Lib.hid (PBx.out.trans hb8); have M8 := Lib.hid ((B8.out.block _ hMl.out).trans HM.out); obtain ⟨q0, q1, q2, _⟩ := three_cells M8.out)
      refine hK.out _ _ (q2) (fun hHeld => ?_)
      clear hK K
      try simp only [Act.put, List.setIfInBounds_toArray, List.set_cons_zero, List.set_cons_succ]
      have O8 := Lib.hid (owns_keep HOw.out (Keeps.of_below B8.out (fun _ => False)) (fun _ h => h.elim))
      have OA := Lib.hid (show World.ownsRow (w8.alloc (.cells #[.int .i8 0, .string s, .slice none 0 0] 25)) bs 25 3 (.slice Ao k co) k vals from O8.out.alloc _)
      have BA := Lib.hid (B8.out.alloc B8.out.size (.cells #[.int .i8 0, .string s, .slice none 0 0] 25))
      have MA := Lib.hid ((BA.out.block _ hMl.out).trans HM.out)
      have CA := Lib.hid (Cells.new w8 [.int .i8 0, .string s, .slice none 0 0] 25 (0, 0))
      obtain ⟨r0, r1, r2, _⟩ := three_cells MA.out
      clear hb8 q0 q1 q2
      refine wpTo_step (i := 4) (o := Oper.mk _ _ _ _ _ _) (by kernel_rfl) rfl (fun K hK => ?_)
      go_simp
      refine hK.out _ _ (r2) (fun hHeld => ?_)
      clear hK K
      try simp only [Act.put, List.setIfInBounds_toArray, List.set_cons_zero, List.set_cons_succ]
      clear r0 r1 r2
      refine wpTo_step (i := 5) (o := Oper.mk _ _ _ _ _ _) (by kernel_rfl) rfl (fun K hK => ?_)
      (refine step_append_at (by rfl) _ _ _ (by rfl) bs 25 i0 (.agg #[.int .i8 0, .string { data := #[] }, .slice none 0 0]) 3 48 Tryz.underlying23 I0.out I1.out I2.out I3.out rfl (by decide) (.slice Ao k co) k vals (by rfl) OA.out (some ⟨w8.heap.size, 0, none⟩) 1 1 [.int .i8 0, .string s, .slice none 0 0] (by rfl) rfl CA.out (by simp [Value.oneCell']) (by unfold maxLen; omega) (by omega) (by have := HBs.out; have := BA.out.size; omega) ?_; intro v' w9 hown hgr hat; obtain ⟨A9, c9, rfl⟩ := shape_of_owns hown; have M9 := Lib.hid ((hgr.block m (Nat.lt_of_lt_of_le hMl.out BA.out.size) (fun e => by have h1 := (OA.out.lt m e.symm).1; have h2 := HMb.out; omega)).trans MA.out); obtain ⟨r0, r1, r2, rf⟩ := three_cells M9.out)
      refine hK.out _ _ (r2) (fun hHeld => ?_)
      clear hK K
      try simp only [Act.put, List.setIfInBounds_toArray, List.set_cons_zero, List.set_cons_succ]
      have K9 := Lib.hid (show Keeps (fun j => bs ≤ j) wr w9 from (Keeps.of_below BA.out _).grown hgr (fun j hj => .inl (OA.out.lt j hj).1))
      refine wpTo_step (i := 6) (o := Oper.mk _ _ _ _ _ _) (by kernel_rfl) rfl (fun K hK => ?_)
      go_simp
      refine hK.out _ _ ((by assumption)) (fun hHeld => ?_)
      clear hK K
      try simp only [Act.put, List.setIfInBounds_toArray, List.set_cons_zero, List.set_cons_succ]
      clear r0 r1 r2 rf
      obtain ⟨r0, r1, r2, rf⟩ := three_cells M9.out
      refine wpTo_last (o := Oper.mk _ _ _ _ _ _) (by kernel_rfl) rfl (fun K hK => ?_)
      go_simp
      refine hK.out _ _ ?_
      clear hK K
      try simp only [Act.put, List.setIfInBounds_toArray, List.set_cons_zero, List.set_cons_succ]
      refine wpTo_done (by kernel_rfl) ?_ _
      clear hHeld r0 r1 r2 rf
      have M10 := Lib.hid (show (w9.setCell ⟨m, 2, none⟩ (.slice A9 (k + 1) c9)).heap[m]? = some (.cells #[.int .i8 3, .string { data := #[] }, .slice A9 (k + 1) c9] 25 (0, 0)) from by simp [World.setCell, Array.getElem?_modify, M9.out])
      have K10 := Lib.hid (show Keeps (fun j => j = m ∨ bs ≤ j) wr (w9.setCell ⟨m, 2, none⟩ (.slice A9 (k + 1) c9)) from (K9.out.mono (fun j hj => .inr hj)).setCell (p := ⟨m, 2, none⟩) (.inl (.inl rfl)) _)
      have HG10 := Lib.hid (show Grows 3 SymR 25 w bs w9 (.slice A9 (k + 1) c9) (l.take (k + 1)) from by
        rw [HTk.out]
        exact Grows.push (vs := [.int .i8 0, .string s, .slice none 0 0]) HVl.out HRr.out (by rw [HLk.out]; exact hown) ⟨rfl, HSz.out⟩ rfl)
      have HG11 := Lib.hid (HG10.out.setCell (p := ⟨m, 2, none⟩) (.slice A9 (k + 1) c9) HMb.out)
      clear hown hgr hat
      go_wp2_with fail
      go_roundw
      case rel => exact ⟨k + 1, by omega, by go_num, .slice A9 (k + 1) c9, HG11.out, M10.out, HKp.out.trans_same K10.out⟩
      case measure => simp [intOf]; omega
    · obtain rfl : k = l.length := by omega
      obtain ⟨q0, q1, q2, _⟩ := three_cells HM.out
      have Zr := Lib.hid ((HKp.out.block _ (lt_of_block Z2.out) (by have := HNm.out; have := HMb.out; omega)).trans Z2.out)
      obtain ⟨z0, z1, z2, zf⟩ := three_cells Zr.out
      have HNL := Lib.hid (show NewLies 3 SymR bs wr Ao l from grows_new (n := 3) (t := 25) (w0 := w) (c := co) symR_flat (by have h := HG.out; rw [List.take_length] at h; exact h))
      have HSh := Lib.hid (show l.length ≤ co ∧ co ≤ maxLen by
        obtain ⟨A9, c9, e, h1, h2⟩ := HG.out.shape
        simp only [Value.slice.injEq] at e
        obtain ⟨_, _, rfl⟩ := e
        rw [HLk.out] at h1
        exact ⟨h1, h2⟩)
      go_wp2_with fail
      have KZ := set3_keeps (S := fun j => j = w.heap.size) (Keeps.refl _ wr) (.inl rfl) (.int .i8 3) (.string { data := #[] }) (.slice Ao l.length co)
      exact sexp_ret (w := set3 wr w.heap.size (.int .i8 3) (.string { data := #[] }) (.slice Ao l.length co)) Tryz.results65 (three_set Zr.out _ _ _) rfl rfl
        ⟨Ao, co, ⟨rfl, HSh.out⟩, (HNL.out.keep symR_flat KZ (fun j hj => by have := HNm.out; have := HMb.out; omega)).mono (by have := HNm.out; have := HMb.out; omega), (set3_keeps (S := fun _ => False) (Keeps.of_below HBr.out _) (.inr (Nat.le_refl _)) _ _ _).none_below⟩
end Go.Proofs.YtbchcipjpcdhfaaGreatDoor.Cm
/- Rows of expressions that a call has made: literals, appended rows. No condition. -/
namespace Go.Proofs.YtbchcipjpcdhfaaGreatDoor.Cm
open Go.RowKit Go.Proofs.YtbchcipjpcdhfaaGreatDoor.Dt

theorem lies_flat {α : Type} {n : Nat} {R : World → List Value → α → Prop} {w : World} {A : Option Addr} {l : List α} (hone : ∀ W vs x, R W vs x → ∀ u ∈ vs, u.oneCell' = true) (h : Lies n R w A l) :
    ∃ vals : List Value, vals.length = l.length * n ∧ Cells w A vals ∧ (∀ u ∈ vals, u.oneCell' = true) ∧ ∀ i x, l[i]? = some x → ∃ vs : List Value, vs.length = n ∧ R w vs x ∧ ∀ j u, vs[j]? = some u → vals[i * n + j]? = some u := by
  rcases h with h | ⟨b, o, rfl, hlt, hr⟩
  · subst h
    exact ⟨[], by simp, .inl rfl, by simp, fun i x hx => by simp at hx⟩
  · have key : ∀ k, k ≤ l.length → ∃ vals : List Value, vals.length = k * n ∧ (∀ u ∈ vals, u.oneCell' = true) ∧ (∀ j u, vals[j]? = some u → w.cell? ⟨b, o + j, none⟩ = some u) ∧ ∀ i x, i < k → l[i]? = some x → ∃ vs : List Value, vs.length = n ∧ R w vs x ∧ ∀ j u, vs[j]? = some u → vals[i * n + j]? = some u := by
      intro k
      induction k with
      | zero => intro _; exact ⟨[], by simp, by simp, fun j u hu => by simp at hu, fun i x hi => by omega⟩
      | succ k ih =>
        intro hk
        obtain ⟨vals, h1, h2, h3, h4⟩ := ih (by omega)
        have hx := List.getElem?_eq_getElem (show k < l.length by omega)
        generalize l[k] = x at hx
        obtain ⟨vs, e1, e2, e3⟩ := hr k x hx
        refine ⟨vals ++ vs, by rw [List.length_append, h1, e1, Nat.succ_mul], fun u hu => ?_, fun j u hu => ?_, fun i y hi hy => ?_⟩
        · rcases List.mem_append.1 hu with hu | hu
          · exact h2 u hu
          · exact hone w vs x e3 u hu
        · by_cases hj : j < vals.length
          · rw [List.getElem?_append_left hj] at hu; exact h3 j u hu
          · rw [List.getElem?_append_right (by omega)] at hu
            have := e2 _ u hu
            rw [h1] at this
            rwa [show o + k * n + (j - k * n) = o + j by omega] at this
        · by_cases he : i < k
          · obtain ⟨us, a1, a2, a3⟩ := h4 i y he hy
            refine ⟨us, a1, a2, fun j u hu => ?_⟩
            have := a3 j u hu
            rw [List.getElem?_append_left (List.getElem?_eq_some_iff.1 this).1]; exact this
          · obtain rfl : i = k := by omega
            rw [hx] at hy
            cases hy
            exact ⟨vs, e1, e3, fun j u hu => by rw [List.getElem?_append_right (by omega), h1, show i * n + j - i * n = j by omega]; exact hu⟩
    obtain ⟨vals, h1, h2, h3, h4⟩ := key l.length (Nat.le_refl _)
    exact ⟨vals, h1, .inr ⟨b, o, rfl, hlt, h3⟩, h2, fun i x hx => h4 i x (List.getElem?_eq_some_iff.1 hx).1 hx⟩
theorem one_sexp (W : World) (vs : List Value) (x : Sexp) (h : SexpR W vs x) : ∀ u ∈ vs, u.oneCell' = true := by
  obtain ⟨A, c, rfl, _⟩ := h.open'
  intro u hu
  simp at hu
  rcases hu with rfl | rfl | rfl <;> rfl
/-- elements with where their lists lie -/
abbrev Bit := Sexp × Option Addr × Nat
def cells3 : List Bit → List Value
  | [] => []
  | y :: r => .int .i8 y.1.kind :: .string y.1.text :: .slice y.2.1 y.1.l.length y.2.2 :: cells3 r
def BitR (w : World) (y : Bit) : Prop := SexpR w [.int .i8 y.1.kind, .string y.1.text, .slice y.2.1 y.1.l.length y.2.2] y.1
theorem cells3_len : ∀ ys : List Bit, (cells3 ys).length = ys.length * 3
  | [] => rfl
  | y :: r => by unfold cells3; simp only [List.length_cons, cells3_len r]; omega
theorem cells3_at : ∀ (ys : List Bit) (i : Nat) (y : Bit), ys[i]? = some y → ∀ j u, [Value.int .i8 y.1.kind, .string y.1.text, .slice y.2.1 y.1.l.length y.2.2][j]? = some u → (cells3 ys)[i * 3 + j]? = some u
  | [], i, y, h => by simp at h
  | y0 :: r, 0, y, h => fun j u hu => by
    simp at h
    subst h
    have hj : j < 3 := by have := (List.getElem?_eq_some_iff.1 hu).1; simpa using this
    unfold cells3
    match j, hj with
    | 0, _ => simpa using hu
    | 1, _ => simpa using hu
    | 2, _ => simpa using hu
  | y0 :: r, i + 1, y, h => fun j u hu => by
    simp at h
    have := cells3_at r i y h j u hu
    unfold cells3
    rw [show (i + 1) * 3 + j = (i * 3 + j) + 1 + 1 + 1 by omega]
    simpa using this
theorem lit_lies {w : World} {nb : Nat} {t : TypeId} {ys : List Bit} {cs : Array Value} (hb : w.heap[nb]? = some (.cells cs t (0, 0))) (hc : cs.toList = cells3 ys) (hr : ∀ y ∈ ys, BitR w y) : Lies 3 SexpR w (some ⟨nb, 0, none⟩) (ys.map Prod.fst) := by
  refine .inr ⟨nb, 0, rfl, lt_of_block hb, fun i x hx => ?_⟩
  rw [List.getElem?_map] at hx
  cases hy : ys[i]? with
  | none => rw [hy] at hx; cases hx
  | some y =>
    rw [hy] at hx
    simp at hx
    subst hx
    refine ⟨_, rfl, fun j u hu => ?_, hr y (List.mem_of_getElem? hy)⟩
    rw [Nat.zero_add, cell_of_cells hb, ← Array.getElem?_toList, hc]
    exact cells3_at ys i y hy j u hu
theorem owns_lies {w : World} {base n c : Nat} {t : TypeId} {A : Option Addr} {vals : List Value} {xs : List Sexp} (ho : w.ownsRow base t 3 (.slice A n c) n vals) (hn : xs.length = n)
    (hv : ∀ i x, xs[i]? = some x → ∃ vs : List Value, vs.length = 3 ∧ SexpR w vs x ∧ ∀ j u, vs[j]? = some u → vals[i * 3 + j]? = some u) : Lies 3 SexpR w A xs := by
  rcases ho.2 with ⟨h1, h2⟩ | ⟨g, cap, cur, h1, hg, hat, h2, h3, h4, h5⟩
  · exact .inl (List.length_eq_zero_iff.1 (by omega))
  · simp only [Value.slice.injEq] at h1
    refine .inr ⟨g, 0, h1.1, (Array.getElem?_eq_some_iff.1 hat).1, fun i x hx => ?_⟩
    obtain ⟨vs, e1, e2, e3⟩ := hv i x hx
    refine ⟨vs, e1, fun j u hu => ?_, e2⟩
    rw [Nat.zero_add, cell_of_row w g (i * 3 + j) cur t (0, 0) hat]
    have := e3 j u hu
    rw [← h5, List.getElem?_take] at this
    split at this
    · simpa using this
    · cases this
/-- a literal row and old ones behind it -/
theorem lit_more {w w0 : World} {ys : List Bit} {xs : List Sexp} {vals : List Value} (hb : Below w0.heap.size w0 w) (hr : ∀ y ∈ ys, BitR w y)
    (hx : ∀ i x, xs[i]? = some x → ∃ vs : List Value, vs.length = 3 ∧ SexpR w0 vs x ∧ ∀ j u, vs[j]? = some u → vals[i * 3 + j]? = some u) :
    ∀ i x, (ys.map Prod.fst ++ xs)[i]? = some x → ∃ vs : List Value, vs.length = 3 ∧ SexpR w vs x ∧ ∀ j u, vs[j]? = some u → (cells3 ys ++ vals)[i * 3 + j]? = some u := fun i x h => by
  by_cases hi : i < ys.length
  · rw [List.getElem?_append_left (by simpa using hi), List.getElem?_map] at h
    cases hy : ys[i]? with
    | none => rw [hy] at h; cases h
    | some y =>
      rw [hy] at h
      simp at h
      subst h
      refine ⟨_, rfl, hr y (List.mem_of_getElem? hy), fun j u hu => ?_⟩
      have := cells3_at ys i y hy j u hu
      rw [List.getElem?_append_left (List.getElem?_eq_some_iff.1 this).1]; exact this
  · rw [List.getElem?_append_right (by simpa using hi)] at h
    obtain ⟨vs, e1, e2, e3⟩ := hx _ x h
    refine ⟨vs, e1, SexpR.lasts _ _ _ _ hb e2, fun j u hu => ?_⟩
    have := e3 j u hu
    simp only [List.length_map] at this
    rw [List.getElem?_append_right (by rw [cells3_len]; omega), cells3_len, show i * 3 + j - ys.length * 3 = (i - ys.length) * 3 + j by omega]
    exact this
theorem leaf_r (w : World) (k : Int) (s : ByteArray) (hs : (s.size : Int) ≤ 140737488351232) (hk : (Lit.int .i8 k).wf = true) : BitR w (.mk k s [], none, 0) :=
  SexpR.make (w := w) (A := none) (k := k) (t := s) (c := 0) (l := []) (.inl rfl) (Nat.zero_le _) (Nat.zero_le _) hs (by simp) hk
theorem list_r {w : World} {A : Option Addr} {l : List Sexp} {c : Nat} (hl : Lies 3 SexpR w A l) (hc : l.length ≤ c) (hm : c ≤ maxLen) (hb : l.length * 48 ≤ 140737488351232) : BitR w (listX l, A, c) :=
  SexpR.make (w := w) (A := A) (k := 3) (t := noS) (c := c) (l := l) hl hc hm (by decide) hb (by decide)
theorem syms_lies {w : World} {A : Option Addr} {l : List ByteArray} (h : Lies 3 SymR w A l) : Lies 3 SexpR w A (l.map symX) :=
  h.imp (by simp) fun i s x vs hs hx hr => by
    rw [List.getElem?_map, hs] at hx
    simp at hx
    subst hx
    obtain ⟨rfl, h⟩ := hr
    exact leaf_r w 0 s h (by decide)
theorem owns_shape {w : World} {base n c s : Nat} {t : TypeId} {A : Option Addr} {vals : List Value} (ho : w.ownsRow base t s (.slice A n c) n vals) : n ≤ c ∧ c ≤ maxLen := by
  rcases ho.2 with ⟨h1, h2⟩ | ⟨g, cap, cur, h1, _, _, h2, h3, _⟩
  · simp only [Value.slice.injEq] at h1
    obtain ⟨_, _, rfl⟩ := h1
    exact ⟨by omega, Nat.zero_le _⟩
  · simp only [Value.slice.injEq] at h1
    obtain ⟨_, _, rfl⟩ := h1
    exact ⟨h2, h3⟩
theorem strs_two (w : World) (a b : ByteArray) (ha : (a.size : Int) ≤ 140737488351232) (hb : (b.size : Int) ≤ 140737488351232) (t : TypeId) : Lies 1 StrR (w.alloc (.cells #[.string a, .string b] t)) (some ⟨w.heap.size, 0, none⟩) [a, b] := by
  have hh := blk_new w (.cells #[.string a, .string b] t)
  refine .inr ⟨_, 0, rfl, lt_of_block hh, fun i x hx => ?_⟩
  match i, hx with
  | 0, hx =>
    simp at hx; subst hx
    exact ⟨[.string a], rfl, fun j u hu => by
      have : j = 0 := by have := (List.getElem?_eq_some_iff.1 hu).1; simpa using this
      subst this; rw [cell_of_cells hh]; simpa using hu, rfl, ha⟩
  | 1, hx =>
    simp at hx; subst hx
    exact ⟨[.string b], rfl, fun j u hu => by
      have : j = 0 := by have := (List.getElem?_eq_some_iff.1 hu).1; simpa using this
      subst this; rw [cell_of_cells hh]; simpa using hu, rfl, hb⟩
  | i + 2, hx => simp at hx
theorem strs_one (w : World) (a : ByteArray) (ha : (a.size : Int) ≤ 140737488351232) : Lies 1 StrR (w.alloc (.cells #[.string a] 9)) (some ⟨w.heap.size, 0, none⟩) [a] := by
  have hh := blk_new w (.cells #[.string a] 9)
  refine .inr ⟨_, 0, rfl, lt_of_block hh, fun i x hx => ?_⟩
  match i, hx with
  | 0, hx =>
    simp at hx; subst hx
    exact ⟨[.string a], rfl, fun j u hu => by
      have : j = 0 := by have := (List.getElem?_eq_some_iff.1 hu).1; simpa using this
      subst this; rw [cell_of_cells hh]; simpa using hu, rfl, ha⟩
  | i + 1, hx => simp at hx
theorem size_text (n : Int) (hn : I64 n) : (ByteArray.mk (textL n).toArray).size ≤ 140737488351232 := by
  show (textL n).toArray.size ≤ _
  rw [List.size_toArray]
  unfold I64 at hn
  unfold textL
  split
  · rename_i hm
    have hb := mayB_iff.1 hm
    have h1 := Lib.itoa_length_le n (by omega) (by omega)
    have h2 := Lib.itoa_length_le (-n) (by omega) (by omega)
    split
    · simp only [List.length_append, List.length_cons, List.length_nil]; omega
    · omega
  · simp
theorem size_textL (n : Int) (hn : I64 n) : (((⟨(textL n).toArray⟩ : ByteArray).size : Nat) : Int) ≤ 140737488351232 := by
  have h : (⟨(textL n).toArray⟩ : ByteArray).size ≤ 140737488351232 := size_text n hn
  omega
end Go.Proofs.YtbchcipjpcdhfaaGreatDoor.Cm
