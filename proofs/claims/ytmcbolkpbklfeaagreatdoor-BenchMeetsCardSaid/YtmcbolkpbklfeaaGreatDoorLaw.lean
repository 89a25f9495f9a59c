/- What closes a law's row: a call that answers true and leaves all that was there as it was meets the law's statement. No condition. -/
import Derived.Test.YtmcbolkpbklfeaaGreatDoorBase
import Derived.ProofKit
import Derived.OpenShut
import Derived.Carry
import Derived.LaidMore
import Derived.MakeChecks
import Derived.Deep.DeepHandedRow
namespace Go.Proofs.YtmcbolkpbklfeaaGreatDoor
open Go.RowKit Go.ChangeShapes Go.WideShapes Go.ChangeAt Go.WideMaps Go.WideElems

section
variable {H : Type} {enc : TypeId × Value → H} {P : Program}

theorem trodAll_below (hl : laidOutB P = true) {W W' : World} (hb : Below W.heap.size W W') : ∀ {ts : List TypeId} {vs : List Value} {ds : List (DataW H)} {ps : List MemPlace},
    (ts.all fun t => P.readableRec t && decide (t < P.types.size)) = true → DataW.TrodAll enc P W 0 (fun _ => true) true ts vs ds ps → (∀ x ∈ ps, x.block < W.heap.size) →
    DataW.TrodAll enc P W' 0 (fun b => decide (b < W.heap.size)) true ts vs ds ps
  | [], [], [], _, _, h, _ => h
  | t :: ts, v :: vs, d :: ds, ps, hr, h, hlt => by
    obtain ⟨p, q, h1, h2, rfl⟩ := h
    simp only [List.all_cons, Bool.and_eq_true, decide_eq_true_eq] at hr
    exact ⟨p, q, Below.trod hl hr.1.1 hr.1.2 h1 hb (fun x hx => hlt x (by simp [hx])), trodAll_below hl hb hr.2 h2 (fun x hx => hlt x (by simp [hx])), rfl⟩
  | [], _ :: _, _, _, _, h, _ => by simp [DataW.TrodAll] at h
  | [], [], _ :: _, _, _, h, _ => by simp [DataW.TrodAll] at h
  | _ :: _, [], _, _, _, h, _ => by simp [DataW.TrodAll] at h
  | _ :: _, _ :: _, [], _, _, h, _ => by simp [DataW.TrodAll] at h

/-- the law's statement is met -/
theorem law_post {f : Func} {s : ChangeSpec} {W W' : World} {args : Array Value} {ds gs : List (DataW H)} {before : List MemPlace} {tb : TypeId}
    (hl : laidOutB P = true) (hr : (f.params.toList.all fun t => P.readableRec t && decide (t < P.types.size)) = true) (hres : f.resultTypes = #[tb]) (htb : P.underlying tb = some .bool) (hsv : s.vars = [])
    (hfn : s.fn H ds = { results := [.lit (.bool true)], args := ds })
    (hW : DataW.Whole enc P f.params.toList s.vars false W args.toList ds gs before) (hb : Below W.heap.size W W') :
    s.post enc P f false true false false W args (.bool true) W' := by
  have hW0 := hW
  have hlt : ∀ p ∈ before, p.block < W.heap.size := fun p hp => hW.lt p hp
  obtain ⟨p, q, hA, hV, rfl, hfz, hnd⟩ := hW
  rw [hsv] at hV
  obtain ⟨rfl, rfl⟩ := trodVars_none hV
  refine ⟨ds, [], p ++ [], [], p, [], hW0, ?_, ?_, ?_, ?_, fun h => by cases h⟩
  · rw [List.append_nil, hfn, hres]
    exact trodAll_mk1 (shut_bool htb true)
  · rw [List.append_nil, hfn]
    exact trodAll_below hl hb hr hA (fun x hx => hlt x (by simp [hx]))
  · rw [List.append_nil, hfn, hsv]
    rfl
  · exact World.keptBut_mono (fun x hx => ⟨hx, Or.inr (Or.inl (by simpa using hx))⟩) (hb.frame (· ∈ p ++ []))
end
section
variable {H : Type} {enc : TypeId × Value → H} {P : Program}
/-- a slice of ints that came in: as a list, nil and empty ones too -/
theorem open_ints_all {t e : TypeId} (ht : P.underlying t = some (.slice e)) (he : P.underlying e = some (.int .i64)) (hce : P.cellsOf e = 1) {W : World} {base : Nat} {v : Value} {d : DataW H} {ps : List MemPlace}
    (hval : Value.okWide P W .any base t v) (h : DataW.Trod enc P W 0 (fun _ => true) true t v d ps) :
    ∃ (A : Option Addr) (cap : Nat) (zs : List Int), v = .slice A zs.length cap ∧ Cells W A (zs.map (Value.int .i64)) ∧ (∀ x ∈ zs, I64 x) ∧ zs.length ≤ cap ∧ cap ≤ maxLen := by
  obtain ⟨a, len, cap, rfl⟩ := okWide_slice ht hval
  obtain ⟨fuel, hf⟩ := h
  rcases open_ints ht he hce hf with ⟨hcs, hx⟩ | ⟨a', len', cap', zs, hcs, _, hl, hm, hz, hx, hcell, hw⟩
  · simp only [Value.cells, List.cons.injEq, Value.slice.injEq, and_true] at hcs
    obtain ⟨rfl, rfl, rfl⟩ := hcs
    exact ⟨none, 0, [], rfl, .inl rfl, by simp, by simp, by simp⟩
  · simp only [Value.cells, List.cons.injEq, Value.slice.injEq, and_true] at hcs
    obtain ⟨rfl, rfl, rfl⟩ := hcs
    simp only [if_true] at hz
    have htk : (zs.take len).length = len := by rw [List.length_take]; omega
    refine ⟨some a', cap, zs.take len, by rw [htk], ?_, fun x hx => bounds_i64 (hw x (List.mem_of_mem_take hx)), by omega, hm⟩
    by_cases h0 : len = 0
    · left; subst h0; simp
    · have hc0 := hcell 0 (by omega)
      have hsp : a'.spot = none := by
        cases hs : a'.spot with
        | none => rfl
        | some q =>
          exfalso
          have e0 : a'.add 0 = a' := by unfold Addr.add; simp
          rw [e0] at hc0
          unfold World.cell? at hc0
          split at hc0
          · rw [hs] at hc0; simp at hc0
          · cases hc0
      obtain ⟨b, o, sp⟩ := a'
      simp only at hsp
      subst hsp
      have hadd : ∀ j, ((⟨b, o, none⟩ : Addr).add j) = ⟨b, o + j, none⟩ := fun j => by unfold Addr.add; split <;> simp_all
      right
      refine ⟨b, o, rfl, ?_, fun j u hu => ?_⟩
      · rw [hadd] at hc0
        exact World.block_lt_of_cell? W _ hc0
      · rw [List.getElem?_map, List.getElem?_take] at hu
        split at hu
        · rename_i hj
          have := hcell j (by omega)
          rw [hadd] at this
          rw [this, List.getD_eq_getElem?_getD]
          rw [List.getElem?_eq_getElem (by omega)] at hu ⊢
          simpa using hu
        · cases hu
end
theorem all_parts {α : Type} (p : α → Bool) (k : Nat) : ∀ (n : Nat) (l : List α), l.length ≤ n * k → (∀ i, i < n → ((l.drop (i * k)).take k).all p = true) → l.all p = true
  | 0, l, h, _ => by
    rw [Nat.zero_mul] at h
    rw [List.length_eq_zero_iff.1 (Nat.le_zero.1 h)]
    rfl
  | n + 1, l, h, hp => by
    rw [← List.take_append_drop (n * k) l, List.all_append, all_parts p k n (l.take (n * k)) (by rw [List.length_take]; exact Nat.min_le_left _ _) (fun i hi => ?_), Bool.true_and]
    · have := hp n (Nat.lt_succ_self n)
      rw [List.take_of_length_le (by rw [List.length_drop]; rw [Nat.succ_mul] at h; omega)] at this
      exact this
    · have := hp i (by omega)
      have e : ((l.take (n * k)).drop (i * k)).take k = (l.drop (i * k)).take k := by
        rw [List.drop_take, List.take_take]
        congr 1
        have : (i + 1) * k ≤ n * k := Nat.mul_le_mul_right _ (by omega)
        rw [Nat.succ_mul] at this
        omega
      rw [e]; exact this
theorem types0 : (((List.range Tryz.prog.types.size).drop (0 * 50)).take 50).all (rowFine Tryz.prog) = true := by kernel_rfl
theorem types1 : (((List.range Tryz.prog.types.size).drop (1 * 50)).take 50).all (rowFine Tryz.prog) = true := by kernel_rfl
theorem types2 : (((List.range Tryz.prog.types.size).drop (2 * 50)).take 50).all (rowFine Tryz.prog) = true := by kernel_rfl
theorem types3 : (((List.range Tryz.prog.types.size).drop (3 * 50)).take 50).all (rowFine Tryz.prog) = true := by kernel_rfl
theorem types4 : (((List.range Tryz.prog.types.size).drop (4 * 50)).take 50).all (rowFine Tryz.prog) = true := by kernel_rfl
theorem types5 : (((List.range Tryz.prog.types.size).drop (5 * 50)).take 50).all (rowFine Tryz.prog) = true := by kernel_rfl
theorem types6 : (((List.range Tryz.prog.types.size).drop (6 * 50)).take 50).all (rowFine Tryz.prog) = true := by kernel_rfl
theorem types7 : (((List.range Tryz.prog.types.size).drop (7 * 50)).take 50).all (rowFine Tryz.prog) = true := by kernel_rfl
theorem types8 : (((List.range Tryz.prog.types.size).drop (8 * 50)).take 50).all (rowFine Tryz.prog) = true := by kernel_rfl
theorem types9 : (((List.range Tryz.prog.types.size).drop (9 * 50)).take 50).all (rowFine Tryz.prog) = true := by kernel_rfl
theorem types10 : (((List.range Tryz.prog.types.size).drop (10 * 50)).take 50).all (rowFine Tryz.prog) = true := by kernel_rfl
theorem types11 : (((List.range Tryz.prog.types.size).drop (11 * 50)).take 50).all (rowFine Tryz.prog) = true := by kernel_rfl
theorem types12 : (((List.range Tryz.prog.types.size).drop (12 * 50)).take 50).all (rowFine Tryz.prog) = true := by kernel_rfl
theorem types13 : (((List.range Tryz.prog.types.size).drop (13 * 50)).take 50).all (rowFine Tryz.prog) = true := by kernel_rfl
theorem types14 : (((List.range Tryz.prog.types.size).drop (14 * 50)).take 50).all (rowFine Tryz.prog) = true := by kernel_rfl
theorem types15 : (((List.range Tryz.prog.types.size).drop (15 * 50)).take 50).all (rowFine Tryz.prog) = true := by kernel_rfl
theorem types16 : (((List.range Tryz.prog.types.size).drop (16 * 50)).take 50).all (rowFine Tryz.prog) = true := by kernel_rfl
theorem types17 : (((List.range Tryz.prog.types.size).drop (17 * 50)).take 50).all (rowFine Tryz.prog) = true := by kernel_rfl
theorem types18 : (((List.range Tryz.prog.types.size).drop (18 * 50)).take 50).all (rowFine Tryz.prog) = true := by kernel_rfl
theorem types19 : (((List.range Tryz.prog.types.size).drop (19 * 50)).take 50).all (rowFine Tryz.prog) = true := by kernel_rfl
theorem types_fine : (List.range Tryz.prog.types.size).all (rowFine Tryz.prog) = true := by
  refine all_parts _ 50 20 _ (of_decide_eq_true (by kernel_rfl)) (fun i hi => ?_)
  have : i = 0 ∨ i = 1 ∨ i = 2 ∨ i = 3 ∨ i = 4 ∨ i = 5 ∨ i = 6 ∨ i = 7 ∨ i = 8 ∨ i = 9 ∨ i = 10 ∨ i = 11 ∨ i = 12 ∨ i = 13 ∨ i = 14 ∨ i = 15 ∨ i = 16 ∨ i = 17 ∨ i = 18 ∨ i = 19 := by omega
  rcases this with rfl | rfl | rfl | rfl | rfl | rfl | rfl | rfl | rfl | rfl | rfl | rfl | rfl | rfl | rfl | rfl | rfl | rfl | rfl | rfl
  · exact types0
  · exact types1
  · exact types2
  · exact types3
  · exact types4
  · exact types5
  · exact types6
  · exact types7
  · exact types8
  · exact types9
  · exact types10
  · exact types11
  · exact types12
  · exact types13
  · exact types14
  · exact types15
  · exact types16
  · exact types17
  · exact types18
  · exact types19
theorem globals_fine : Tryz.prog.globals.all (fun g => decide (g.type < Tryz.prog.types.size)) = true := by kernel_rfl
theorem params_fine : Tryz.prog.funcs.all (fun f => f.params.all fun t => decide (t < Tryz.prog.types.size)) = true := by kernel_rfl
theorem laidOut : laidOutB Tryz.prog = true := by
  unfold laidOutB
  rw [types_fine, globals_fine, params_fine]
  rfl
theorem own : ownKnob Tryz.prog.godebug = none := by kernel_rfl
end Go.Proofs.YtmcbolkpbklfeaaGreatDoor
