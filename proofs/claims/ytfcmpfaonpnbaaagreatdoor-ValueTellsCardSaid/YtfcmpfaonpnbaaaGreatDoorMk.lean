import Derived.Test.YtfcmpfaonpnbaaaGreatDoorMg
import Derived.Test.YtfcmpfaonpnbaaaGreatDoorMi
import Derived.Test.YtfcmpfaonpnbaaaGreatDoorMj
/- merged by wip/merge.py from: ValMap ValRows -/
/- Maps from rows of three ints to ints, of the call's own. No condition. -/
namespace Go.Proofs.YtfcmpfaonpnbaaaGreatDoor.Vl
open Go.RowKit Go.Maps Go.Proofs.YtfcmpfaonpnbaaaGreatDoor.Dt Go.Proofs.YtfcmpfaonpnbaaaGreatDoor.Sg

def keyA (a : Int × Int × Int) : Value := .agg #[.int .i64 a.1, .int .i64 a.2.1, .int .i64 a.2.2]
def I3 (a : Int × Int × Int) : Prop := I64 a.1 ∧ I64 a.2.1 ∧ I64 a.2.2
theorem keyA_inj {a b : Int × Int × Int} (h : keyA a = keyA b) : a = b := by
  unfold keyA at h
  obtain ⟨a0, a1, a2⟩ := a
  obtain ⟨b0, b1, b2⟩ := b
  simp at h ⊢
  exact h
/-- F tells what stands where; m of them are there -/
def RowMap (w : World) (b n m : Nat) (F : Int × Int × Int → Option Int) : Prop :=
  ∃ D : DataW Unit, w.ownsMap Tryz.prog 58 (plainElem Tryz.prog 3) b n D ∧ Maps.size D = m ∧ ∀ a kl, keyOf Tryz.prog 58 (keyA a) = some kl → Maps.has D kl = (F a).isSome ∧ D.atKey kl (.lit (.int .i64 0)) = .lit (.int .i64 ((F a).getD 0))
theorem zero_int (w : World) : (zeroValue 3).run Tryz.prog w = .ok (.int .i64 0) w := by kernel_rfl
section
variable {w w' : World} {b n m : Nat} {F : Int × Int × Int → Option Int} {a : Int × Int × Int}
theorem RowMap.made (w : World) : RowMap (w.alloc (.map #[] 0)) w.heap.size 0 0 (fun _ => none) := ⟨.map [], World.ownsMap_made w _ _ _, rfl, fun _ _ _ => ⟨rfl, rfl⟩⟩
theorem RowMap.keeps {T : Nat → Prop} (h : RowMap w b n m F) (hk : Keeps T w w') (hT : ¬ T b) : RowMap w' b n m F := by
  obtain ⟨D, ⟨es, clock, hb, r⟩, h2⟩ := h
  exact ⟨D, ⟨es, clock, (hk.block b (lt_of_block hb) hT).trans hb, r⟩, h2⟩
theorem RowMap.below (h : RowMap w b n m F) (hb : Below w.heap.size w w') : RowMap w' b n m F := h.keeps (Keeps.of_below hb (fun _ => False)) id
theorem RowMap.lt (h : RowMap w b n m F) : b < w.heap.size := by obtain ⟨D, h1, _⟩ := h; exact h1.lt
theorem RowMap.imp {F' : Int × Int × Int → Option Int} {m' : Nat} (h : RowMap w b n m F) (hm : m = m') (hF : ∀ a, F a = F' a) : RowMap w b n m' F' := by
  obtain ⟨D, h1, h2, h3⟩ := h
  exact ⟨D, h1, h2.trans hm, fun a kl hk => by rw [← hF]; exact h3 a kl hk⟩
theorem RowMap.look (h : RowMap w b n m F) (ha : I3 a) : (Instr.lookup 63 (.map (some b)) (keyA a) true).run Tryz.prog w = .ok (.tuple #[.int .i64 ((F a).getD 0), .bool (F a).isSome]) w := by
  obtain ⟨D, h1, _, h3⟩ := h
  obtain ⟨kl, hkl⟩ := keyOf_a3 ha.1 ha.2.1 ha.2.2
  obtain ⟨q1, q2⟩ := h3 a kl hkl
  obtain ⟨v, ps, hrun, hv⟩ := h1.look_ok a3_key Tryz.underlying63 (zero_int w) (plainElem_int Tryz.underlying3 (by decide)) hkl
  obtain ⟨c, rfl, hc, _⟩ := plainElem_int_inv Tryz.underlying3 hv
  rw [q2] at hc
  simp at hc
  rw [q1] at hrun
  unfold keyA
  rw [hc.1]
  exact hrun
theorem RowMap.len (h : RowMap w b n m F) (ty : TypeId) : (Builtin.len_ #[63] ty #[.map (some b)]).run Tryz.prog w = .ok (.int .i64 m) w := by
  obtain ⟨D, h1, h2, _⟩ := h
  rw [← h2]
  exact h1.len Tryz.underlying63 ty
theorem RowMap.store (h : RowMap w b n m F) (hn : n < maxLen) (ha : I3 a) {v : Int} (hv : I64 v) :
    ∃ w', (Instr.mapUpdate 63 (.map (some b)) (keyA a) (.int .i64 v)).run Tryz.prog w = .ok () w' ∧ RowMap w' b (n + 1) (if (F a).isSome then m else m + 1) (fun x => if x = a then some v else F x) ∧ w.grownBy w' (some b) := by
  obtain ⟨D, h1, h2, h3⟩ := h
  obtain ⟨kl, hkl⟩ := keyOf_a3 ha.1 ha.2.1 ha.2.2
  obtain ⟨w', hrun, q1, q2⟩ := h1.update a3_key Tryz.underlying63 hn hkl (plainElem_int Tryz.underlying3 (wf_i64 hv))
  have hkk : keyOf Tryz.prog 58 (keyA a) = some kl := hkl
  refine ⟨w', hrun, ⟨_, q1, ?_, fun x xl hx => ?_⟩, q2⟩
  · rw [size_put (h1.tidy a3_key), (h3 a kl hkk).1, h2]
  · by_cases hq : xl = kl
    · subst hq
      have hxa : x = a := keyA_inj (a3_key.inj hx hkk)
      simp only [if_pos hxa]
      exact ⟨has_put_same h1.isMap (a3_key.key hkk) _, atKey_put_same h1.isMap (a3_key.key hkk) _ _⟩
    · have hne : x ≠ a := fun e => by subst e; rw [hx] at hkk; exact hq (Option.some.inj hkk)
      simp only [if_neg hne]
      obtain ⟨r1, r2⟩ := h3 x xl hx
      exact ⟨(has_put_other hq _).trans r1, (atKey_put_other hq _ _).trans r2⟩
end

/-- where a row of these arguments stands last among the first k -/
def idxTo (l : List Row) : Nat → Int × Int × Int → Option Int
  | 0, _ => none
  | k + 1, a => match l[k]? with
    | some r => if a = Row.args r then some (k : Int) else idxTo l k a
    | none => idxTo l k a
def cntTo (l : List Row) : Nat → Nat
  | 0 => 0
  | k + 1 => match l[k]? with
    | some r => if (idxTo l k (Row.args r)).isSome then cntTo l k else cntTo l k + 1
    | none => cntTo l k
theorem idx_some {l : List Row} {a : Int × Int × Int} : ∀ {k : Nat} {i : Int}, idxTo l k a = some i → ∃ j r, i = ((j : Nat) : Int) ∧ j < k ∧ l[j]? = some r ∧ Row.args r = a
  | 0, i, h => by simp [idxTo] at h
  | k + 1, i, h => by
    unfold idxTo at h
    cases hr : l[k]? with
    | none =>
      rw [hr] at h
      obtain ⟨j, r, h1, h2, h3⟩ := idx_some h
      exact ⟨j, r, h1, by omega, h3⟩
    | some r =>
      rw [hr] at h
      simp only at h
      by_cases e : a = Row.args r
      · rw [if_pos e] at h
        cases h
        exact ⟨k, r, rfl, by omega, hr, e.symm⟩
      · rw [if_neg e] at h
        obtain ⟨j, r, h1, h2, h3⟩ := idx_some h
        exact ⟨j, r, h1, by omega, h3⟩
theorem idx_none {l : List Row} {a : Int × Int × Int} : ∀ {k : Nat}, idxTo l k a = none → ∀ j r, j < k → l[j]? = some r → Row.args r ≠ a
  | 0, _, j, r, hj, _ => by omega
  | k + 1, h, j, r, hj, hr => by
    unfold idxTo at h
    cases hk : l[k]? with
    | none =>
      rw [hk] at h
      by_cases e : j = k
      · subst e; rw [hk] at hr; cases hr
      · exact idx_none h j r (by omega) hr
    | some q =>
      rw [hk] at h
      simp only at h
      by_cases ea : a = Row.args q
      · rw [if_pos ea] at h; cases h
      · rw [if_neg ea] at h
        by_cases e : j = k
        · subst e; rw [hk] at hr; cases hr; exact fun e => ea e.symm
        · exact idx_none h j r (by omega) hr
theorem cnt_le (l : List Row) : ∀ k, cntTo l k ≤ k
  | 0 => Nat.le_refl _
  | k + 1 => by
    have ih := cnt_le l k
    unfold cntTo
    split
    · split <;> omega
    · omega
theorem cnt_iff (l : List Row) : ∀ k, k ≤ l.length → (cntTo l k = k ↔ ((l.take k).map Row.args).Nodup)
  | 0, _ => by simp [cntTo]
  | k + 1, hk => by
    have ih := cnt_iff l k (by omega)
    have hle := cnt_le l k
    have hr := List.getElem?_eq_getElem (show k < l.length by omega)
    generalize l[k] = r at hr
    have et : l.take (k + 1) = l.take k ++ [r] := by rw [List.take_add_one, hr]; rfl
    rw [et, List.map_append, List.nodup_append]
    unfold cntTo
    rw [hr]
    simp only
    cases hi : idxTo l k (Row.args r) with
    | none =>
      simp only [Option.isSome_none, Bool.false_eq_true, if_false]
      rw [show (cntTo l k + 1 = k + 1) = (cntTo l k = k) by simp, ih]
      constructor
      · intro h
        refine ⟨h, by simp, ?_⟩
        intro x hx y hy e
        simp at hy
        subst hy
        obtain ⟨q, hq, rfl⟩ := List.mem_map.1 hx
        obtain ⟨j, hj⟩ := List.mem_iff_getElem?.1 hq
        rw [List.getElem?_take] at hj
        split at hj
        · rename_i hjk
          exact idx_none hi j q hjk hj e
        · cases hj
      · intro h; exact h.1
    | some i =>
      simp only [Option.isSome_some, if_true]
      constructor
      · intro h; omega
      · intro h
        exfalso
        obtain ⟨j, q, _, hj, hq, e⟩ := idx_some hi
        refine h.2.2 (Row.args q) (List.mem_map_of_mem ?_) (Row.args r) (by simp) e
        exact List.mem_of_getElem? (i := j) (by rw [List.getElem?_take, if_pos hj]; exact hq)
theorem cnt_once (l : List Row) : decide ((cntTo l l.length : Int) = (l.length : Int)) = onceB l := by
  unfold onceB
  have h := cnt_iff l l.length (Nat.le_refl _)
  rw [List.take_length] at h
  rw [decide_eq_decide, ← h]
  omega
/-- where a row is found -/
theorem idx_row {l : List Row} (ho : onceB l = true) (a : Int × Int × Int) : match idxTo l l.length a with
    | none => rowAt l a = none ∧ hasA l a = false
    | some i => ∃ j r, i = ((j : Nat) : Int) ∧ l[j]? = some r ∧ Row.args r = a ∧ rowAt l a = some r ∧ hasA l a = true := by
  cases hi : idxTo l l.length a with
  | none =>
    have hn := idx_none hi
    have h2 : ∀ r ∈ l, Row.args r ≠ a := fun r hr => by
      obtain ⟨j, hj⟩ := List.mem_iff_getElem?.1 hr
      exact hn j r (List.getElem?_eq_some_iff.1 hj).1 hj
    exact ⟨List.find?_eq_none.2 (fun r hr => by simpa using h2 r hr), hasA_not.2 h2⟩
  | some i =>
    obtain ⟨j, r, h1, h2, h3, h4⟩ := idx_some hi
    refine ⟨j, r, h1, h3, h4, ?_, hasA_iff.2 ⟨r, List.mem_of_getElem? h3, h4⟩⟩
    unfold rowAt
    cases hf : l.find? (fun r => decide (Row.args r = a)) with
    | none =>
      rw [List.find?_eq_none] at hf
      have := hf r (List.mem_of_getElem? h3)
      simp [h4] at this
    | some q =>
      have e := List.find?_some hf
      rw [decide_eq_true_iff] at e
      obtain ⟨i2, hi2⟩ := List.mem_iff_getElem?.1 (List.mem_of_find?_eq_some hf)
      unfold onceB at ho
      rw [decide_eq_true_iff] at ho
      have m1 : (l.map Row.args)[i2]? = some a := by rw [List.getElem?_map, hi2, ← e]; rfl
      have m2 : (l.map Row.args)[j]? = some a := by rw [List.getElem?_map, h3, ← h4]; rfl
      have hlt : i2 < (l.map Row.args).length := (List.getElem?_eq_some_iff.1 m1).1
      have := (List.getElem?_inj hlt ho).1 (m1.trans m2.symm)
      subst this
      rw [h3] at hi2
      exact congrArg some (Option.some.inj hi2).symm
end Go.Proofs.YtfcmpfaonpnbaaaGreatDoor.Vl
/- The program's value: a function's rows by their arguments. -/
namespace Go.Proofs.YtfcmpfaonpnbaaaGreatDoor.Vl
open Go.RowKit Go.Proofs.YtfcmpfaonpnbaaaGreatDoor.Dt Go.Proofs.YtfcmpfaonpnbaaaGreatDoor.Sg

theorem row_cells {w W : World} {A : Option Addr} {l : List Row} (h : Lies 4 RowR w A l) (hb : Below w.heap.size w W) {k : Nat} {r : Row} (hr : l[k]? = some r) :
    ∃ b o, A = some ⟨b, o, none⟩ ∧ b < w.heap.size ∧ W.cell? ⟨b, o + k * 4, none⟩ = some (.int .i64 r.a0) ∧ W.cell? ⟨b, o + k * 4 + 1, none⟩ = some (.int .i64 r.a1) ∧ W.cell? ⟨b, o + k * 4 + 2, none⟩ = some (.int .i64 r.a2) ∧ W.cell? ⟨b, o + k * 4 + 3, none⟩ = some (.int .i64 r.val) ∧ I3 (Row.args r) ∧ I64 r.val := by
  obtain ⟨b, o, vs, rfl, hbl, _, hcell, rfl, h1, h2, h3, h4⟩ := h.at' hr
  have e := fun j u (hu : _) => ((bcell hb).1 b (o + k * 4 + j) hbl).trans (hcell j u hu)
  exact ⟨b, o, rfl, hbl, e 0 _ rfl, e 1 _ rfl, e 2 _ rfl, e 3 _ rfl, ⟨h1, h2, h3⟩, h4⟩
theorem idx_succ {l : List Row} {k : Nat} {r : Row} (hr : l[k]? = some r) (a : Int × Int × Int) : (if a = Row.args r then some (k : Int) else idxTo l k a) = idxTo l (k + 1) a := by
  conv => rhs; unfold idxTo
  rw [hr]
theorem cnt_succ {l : List Row} {k : Nat} {r : Row} (hr : l[k]? = some r) : (if (idxTo l k (Row.args r)).isSome then cntTo l k else cntTo l k + 1) = cntTo l (k + 1) := by
  conv => rhs; unfold cntTo
  rw [hr]
def RowsPost (l : List Row) (w : World) (e : Ending) (w' : World) : Prop := ∃ bm, e = .returned (.tuple #[.map (some bm), .bool (onceB l)]) ∧ RowMap w' bm l.length (cntTo l l.length) (idxTo l l.length) ∧ Below w.heap.size w w' ∧ w.heap.size ≤ bm
set_option maxRecDepth 100000 in
set_option maxHeartbeats 1600000 in
theorem rows_any {w : World} {A : Option Addr} {c vb vo : Nat} {l : List Row} (h : Lies 4 RowR w A l) (hl : (l.length : Int) ≤ 140737488351232) (hc : w.cell? ⟨vb, vo, none⟩ = some (.slice A l.length c)) (hlt : vb < w.heap.size) :
    Calls Tryz.prog 24 #[.pointer (some ⟨vb, vo, none⟩)] w (RowsPost l w) := by
  have HL := Lib.hid (fun W (hW : Below w.heap.size w W) k r (hr : l[k]? = some r) => row_cells h hW hr)
  have HC := Lib.hid (fun W (hW : Below w.heap.size w W) => ((bcell hW).1 vb vo hlt).trans hc)
  have HM0 := Lib.hid (RowMap.made w)
  have HB0 := Lib.hid ((Below.refl w.heap.size w).alloc (Nat.le_refl _) (.map #[] 0))
  have HP := Lib.hid (fun bm w' e (h0 : e = Ending.returned (.tuple #[.map (some bm), .bool (onceB l)])) h1 h2 h3 => (show RowsPost l w e w' from ⟨bm, h0, h1, h2, h3⟩))
  have HO := Lib.hid (cnt_once l)
  have HIs := Lib.hid (fun k r hr a => idx_succ (l := l) (k := k) (r := r) hr a)
  have HCs := Lib.hid (fun k r hr => cnt_succ (l := l) (k := k) (r := r) hr)
  have c0 := HC.out _ HB0.out
  have hmm := @run_makeMap Tryz.prog
  clear h hc
  go_enter Tryz.func24, Tryz.ntmps24
  go_wp2_with fail
  generalize w.alloc (.map #[] 0) = w1 at *
  go_loopw [12] (fun v wr => ∃ k : Nat, k ≤ l.length ∧ v = .int .i64 k ∧ Below w.heap.size w wr ∧ RowMap wr w.heap.size k (cntTo l k) (idxTo l k)) (fun v _ => l.length - (intOf v).toNat)
  case atStart => exact ⟨0, by omega, rfl, HB0.out, HM0.out⟩
  case round =>
    obtain ⟨k, hk, rfl, hb, hm⟩ := hrel
    have HB := Lib.hid hb
    have HM := Lib.hid hm
    clear hb hm HM0 hmm
    by_cases hlk : k < l.length
    · have hlk2 : (k : Int) < (l.length : Int) := by omega
      obtain ⟨r, hr⟩ : ∃ r, l[k]? = some r := ⟨_, List.getElem?_eq_getElem hlk⟩
      obtain ⟨b, o, rfl, hbl, p0, p1, p2, p3, hi, hv⟩ := HL.out wr HB.out k r hr
      obtain ⟨w3, hup, hm3, hg3⟩ := HM.out.store (by unfold maxLen; omega) hi (v := (k : Int)) ⟨by omega, by omega⟩
      have HM3 := Lib.hid (hm3.imp (HCs.out k r hr) (HIs.out k r hr))
      have HB3 := Lib.hid (HB.out.grown hg3 HB.out.size (fun j hj => by simp at hj; omega))
      have q0 := HC.out wr HB.out
      unfold keyA Row.args at hup
      clear hr hm3 hg3 c0
      go_wp2_with fail
      go_roundw
      case rel => exact ⟨k + 1, by omega, by go_num, HB3.out, HM3.out⟩
      case measure => simp [intOf]; omega
    · obtain rfl : k = l.length := by omega
      clear c0
      go_wp2_with fail
      refine wp_region_held_drew (S := fun W => W.cell? ⟨vb, vo, none⟩ = some (.slice A l.length c) ∧ RowMap W w.heap.size l.length (cntTo l l.length) (idxTo l l.length)) (by kernel_rfl) (⟨HC.out wr HB.out, HM.out.below (Below.refl _ _).drew⟩) (fun hHeld => ?_)
      refine wpAnyH_take (i := 0) (oi := Oper.mk _ _ _ _ _ _) (v := ?_) rfl (by kernel_rfl) (by kernel_rfl) (by kernel_rfl) (fun _ _ _ h => h) (Or.inl ⟨by rfl, ?_⟩) (by assumption) ?_
      rotate_left
      · (intro w hSw; (try dsimp only at hSw); go_simp; try with_reducible rfl)
      try simp only [Act.put, List.setIfInBounds_toArray, List.set_cons_zero, List.set_cons_succ]
      refine wpAnyH_take (i := 1) (oi := Oper.mk _ _ _ _ _ _) (v := ?_) rfl (by kernel_rfl) (by kernel_rfl) (by kernel_rfl) (fun _ _ _ h => h) (Or.inl ⟨by rfl, ?_⟩) (by assumption) ?_
      rotate_left
      · (intro w hSw; (try dsimp only at hSw); go_simp; try with_reducible rfl)
      try simp only [Act.put, List.setIfInBounds_toArray, List.set_cons_zero, List.set_cons_succ]
      refine wpAnyH_take (i := 2) (oi := Oper.mk _ _ _ _ _ _) (v := ?_) rfl (by kernel_rfl) (by kernel_rfl) (by kernel_rfl) (fun _ _ _ h => h) (Or.inl ⟨by rfl, ?_⟩) (by assumption) ?_
      rotate_left
      · (intro w hSw; (try dsimp only at hSw); have hL := fun ty => hSw.2.len ty; clear hSw; simp [execOp, resolve, invoke, builtin, Act.eval, hL, Result.andThen]; rfl)
      try simp only [Act.put, List.setIfInBounds_toArray, List.set_cons_zero, List.set_cons_succ]
      refine wpAnyH_take (i := 3) (oi := Oper.mk _ _ _ _ _ _) (v := ?_) rfl (by kernel_rfl) (by kernel_rfl) (by kernel_rfl) (fun _ _ _ h => h) (Or.inl ⟨by rfl, ?_⟩) (by assumption) ?_
      rotate_left
      · (intro w hSw; (try dsimp only at hSw); go_simp; try with_reducible rfl)
      try simp only [Act.put, List.setIfInBounds_toArray, List.set_cons_zero, List.set_cons_succ]
      refine wpAnyH_take (i := 4) (oi := Oper.mk _ _ _ _ _ _) (v := ?_) rfl (by kernel_rfl) (by kernel_rfl) (by kernel_rfl) (fun _ _ _ h => h) (Or.inl ⟨by rfl, ?_⟩) (by assumption) ?_
      rotate_left
      · (intro w hSw; (try dsimp only at hSw); go_simp; try with_reducible rfl)
      try simp only [Act.put, List.setIfInBounds_toArray, List.set_cons_zero, List.set_cons_succ]
      refine wpAnyH_take (i := 5) (oi := Oper.mk _ _ _ _ _ _) (v := ?_) rfl (by kernel_rfl) (by kernel_rfl) (by kernel_rfl) (fun _ _ _ h => h) (Or.inl ⟨by rfl, ?_⟩) (by assumption) ?_
      rotate_left
      · (intro w hSw; (try dsimp only at hSw); go_simp; try with_reducible rfl)
      try simp only [Act.put, List.setIfInBounds_toArray, List.set_cons_zero, List.set_cons_succ]
      refine wpAnyH_take (i := 6) (oi := Oper.mk _ _ _ _ _ _) (v := ?_) rfl (by kernel_rfl) (by kernel_rfl) (by kernel_rfl) (fun _ _ _ h => h) (Or.inl ⟨by rfl, ?_⟩) (by assumption) ?_
      rotate_left
      · (intro w hSw; (try dsimp only at hSw); go_simp; try with_reducible rfl)
      try simp only [Act.put, List.setIfInBounds_toArray, List.set_cons_zero, List.set_cons_succ]
      refine wpAnyH_take (i := 7) (oi := Oper.mk _ _ _ _ _ _) (v := ?_) rfl (by kernel_rfl) (by kernel_rfl) (by kernel_rfl) (fun _ _ _ h => h) (Or.inl ⟨by rfl, ?_⟩) (by assumption) ?_
      rotate_left
      · (intro w hSw; (try dsimp only at hSw); go_simp; try with_reducible rfl)
      try simp only [Act.put, List.setIfInBounds_toArray, List.set_cons_zero, List.set_cons_succ]
      refine wpAnyH_take (i := 8) (oi := Oper.mk _ _ _ _ _ _) (v := ?_) rfl (by kernel_rfl) (by kernel_rfl) (by kernel_rfl) (fun _ _ _ h => h) (Or.inl ⟨by rfl, ?_⟩) (by assumption) ?_
      rotate_left
      · (intro w hSw; (try dsimp only at hSw); go_simp; try with_reducible rfl)
      try simp only [Act.put, List.setIfInBounds_toArray, List.set_cons_zero, List.set_cons_succ]
      refine wpAnyH_take (i := 9) (oi := Oper.mk _ _ _ _ _ _) (v := ?_) rfl (by kernel_rfl) (by kernel_rfl) (by kernel_rfl) (fun _ _ _ h => h) (Or.inl ⟨by rfl, ?_⟩) (by assumption) ?_
      rotate_left
      · (intro w hSw; (try dsimp only at hSw); go_simp; try with_reducible rfl)
      try simp only [Act.put, List.setIfInBounds_toArray, List.set_cons_zero, List.set_cons_succ]
      refine wpAnyH_take (i := 10) (oi := Oper.mk _ _ _ _ _ _) (v := ?_) rfl (by kernel_rfl) (by kernel_rfl) (by kernel_rfl) (fun _ _ _ h => h) (Or.inl ⟨by rfl, ?_⟩) (by assumption) ?_
      rotate_left
      · (intro w hSw; (try dsimp only at hSw); go_simp; try with_reducible rfl)
      try simp only [Act.put, List.setIfInBounds_toArray, List.set_cons_zero, List.set_cons_succ]
      refine wpAnyH_done (by kernel_rfl) ?_ _
      go_wp2_with fail
      have HB4 := Lib.hid (HB.out.trans ((Below.refl wr.heap.size wr).drew.mono HB.out.size))
      have HM4 := Lib.hid (HM.out.below (Below.refl _ _).drew)
      have HQ := Lib.hid (show ((cntTo l l.length : Int) == (l.length : Int)) = onceB l by rw [← HO.out, Bool.eq_iff_iff]; simp)
      go_ret2
      exact HP.out _ _ _ (by rw [HQ.out]; rfl) HM4.out HB4.out (Nat.le_refl _)
end Go.Proofs.YtfcmpfaonpnbaaaGreatDoor.Vl
