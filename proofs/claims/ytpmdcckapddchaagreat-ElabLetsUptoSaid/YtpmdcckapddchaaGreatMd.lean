import Derived.Test.YtpmdcckapddchaaGreatShort
import Derived.Test.YtpmdcckapddchaaGreatMa
import Derived.Test.YtpmdcckapddchaaGreatMc
import Derived.Deep.RegionHeld3
import Derived.Deep.RegionWith
import Derived.Test.YtpmdcckapddchaaGreatMb
/- merged by wip/merge.py from: SigA SigF SigFree SigR SigMac SigCheckS ElPlain ElNeed -/
/- sig's small questions, those of the program and those of the document. -/
namespace Go.Proofs.YtpmdcckapddchaaGreat.Sg
open Go.RowKit Go.Proofs.YtpmdcckapddchaaGreat.Dt

def usableB (l : List UInt8) : Bool := Lx.mayB l && !Lx.resB l
set_option maxHeartbeats 800000 in
theorem usable_any (s : ByteArray) (w : World) (hs : (s.size : Int) ≤ 140737488351232) :
  Calls Tryz.prog 55 #[.string s] w fun e w' => e = .returned (.bool (usableB (Lx.bs s))) ∧ w = w' := by
 have HM := kp (Lx.may_any s w (by omega))
 have HR := kp (Lx.reserved_any s w)
 unfold usableB
 generalize Lx.mayB (Lx.bs s) = m at *
 generalize Lx.resB (Lx.bs s) = r at *
 cases m with
 | false =>
  go_enter Tryz.func55, Tryz.ntmps55
  go_wp2_with fail
  refine (HM.out).mono ?_
  rintro e w' ⟨rfl, rfl⟩
  go_wp2_with fail
  go_ret
  exact ⟨rfl, rfl⟩
 | true =>
  go_enter Tryz.func55, Tryz.ntmps55
  go_wp2_with fail
  refine (HM.out).mono ?_
  rintro e w' ⟨rfl, rfl⟩
  go_wp2_with fail
  refine (HR.out).mono ?_
  rintro e w' ⟨rfl, rfl⟩
  go_wp2_with fail
  go_ret
  exact ⟨rfl, rfl⟩
def coreL : List (List UInt8) := [[116, 114, 117, 101], [102, 97, 108, 115, 101], [110, 111, 116], [97, 110, 100], [111, 114], [120, 111, 114], [61, 62], [61], [100, 105, 115, 116, 105, 110, 99, 116], [105, 116, 101], [43], [45], [60, 61], [60], [62, 61], [62]]
def coreB (l : List UInt8) : Bool := coreL.contains l
set_option maxHeartbeats 3200000 in
theorem core_any (s : ByteArray) (w : World) :
  Calls Tryz.prog 56 #[.string s] w fun e w' => e = .returned (.bool (coreB (Lx.bs s))) ∧ w = w' := by
 go_enter Tryz.func56, Tryz.ntmps56
 go_wp2_with fail
 all_goals
  go_ret
  exact ⟨ret_bool (by rw [← Lx.bs_toList]; simp_all [coreB, coreL]), rfl⟩
def thereB (n : Nat) (s : Int) : Bool := decide (0 ≤ s ∧ s < 2 + (n : Int))
set_option maxHeartbeats 1600000 in
theorem there_any (A1 A2 A3 : Option Addr) (n1 c1 n2 c2 n3 c3 : Nat) (s : Int) (w : World) (hn : (n1 : Int) ≤ 140737488351232) :
  Calls Tryz.prog 97 #[.agg #[.slice A1 n1 c1, .slice A2 n2 c2, .slice A3 n3 c3], .int .i64 s] w fun e w' => e = .returned (.bool (thereB n1 s)) ∧ Below w.heap.size w w' := by
 have HB := kp ((Below.refl w.heap.size w).alloc (Nat.le_refl _) (.cells #[.slice A1 n1 c1, .slice A2 n2 c2, .slice A3 n3 c3] 26))
 have HT := kp (show thereB n1 s = decide (0 ≤ s ∧ s < 2 + (n1 : Int)) from rfl)
 by_cases h0 : 0 ≤ s
 ·by_cases h1 : s < 2 + (n1 : Int)
  ·go_enter Tryz.func97, Tryz.ntmps97
   go_wp2_with fail
   go_ret
   exact ⟨ret_bool (by rw [HT.out]; simp [h0, h1]), HB.out⟩
  ·have h1' := decide_eq_false h1
   go_enter Tryz.func97, Tryz.ntmps97
   go_wp2_with fail
   go_ret
   exact ⟨ret_bool (by rw [HT.out]; simp [h1]), HB.out⟩
 ·have h0' := decide_eq_false h0
  go_enter Tryz.func97, Tryz.ntmps97
  go_wp2_with fail
  go_ret
  exact ⟨ret_bool (by rw [HT.out]; simp; omega), HB.out⟩

def argB (n : Nat) (len : Int) (i : Nat) (a : Int) : Bool := if (i : Int) < len then thereB n a else a == 0
def funB (n : Nat) (f : Fun4) : Bool := decide (0 ≤ f.len ∧ f.len ≤ 3) && thereB n f.res && argB n f.len 0 f.a0 && argB n f.len 1 f.a1 && argB n f.len 2 f.a2
def argOf (f : Fun4) (i : Nat) : Int := if i = 0 then f.a0 else if i = 1 then f.a1 else f.a2
def okTo (n : Nat) (f : Fun4) (k : Nat) : Bool := (List.range k).all fun i => argB n f.len i (argOf f i)
theorem okTo_succ (n : Nat) (f : Fun4) (k : Nat) : okTo n f (k + 1) = (okTo n f k && argB n f.len k (argOf f k)) := by unfold okTo; rw [List.range_succ, List.all_append]; simp
theorem funB_eq (n : Nat) (f : Fun4) : funB n f = (decide (0 ≤ f.len ∧ f.len ≤ 3) && thereB n f.res && okTo n f 3) := by
 have h : okTo n f 3 = (argB n f.len 0 f.a0 && argB n f.len 1 f.a1 && argB n f.len 2 f.a2) := by
  rw [okTo_succ, okTo_succ, okTo_succ]; rfl
 rw [h]; unfold funB; simp only [Bool.and_assoc]
theorem okTo_stop {n : Nat} {f : Fun4} {k : Nat} (hk : k < 3) (h : argB n f.len k (argOf f k) = false) : okTo n f 3 = false := by
 unfold okTo
 rw [List.all_eq_false]
 exact ⟨k, List.mem_range.2 hk, by rw [h]; simp⟩
theorem sig_cells (w : World) (a b c : Value) (t : TypeId) : (w.alloc (.cells #[a, b, c] t)).cell? ⟨w.heap.size, 0, none⟩ = some a ∧ (w.alloc (.cells #[a, b, c] t)).cell? ⟨w.heap.size, 1, none⟩ = some b ∧ (w.alloc (.cells #[a, b, c] t)).cell? ⟨w.heap.size, 2, none⟩ = some c := by
 refine ⟨?_, ?_, ?_⟩ <;> rw [World.cell?_alloc_mark] <;> rfl
set_option maxRecDepth 100000 in
set_option maxHeartbeats 3200000 in
theorem fun_any (A1 A2 A3 : Option Addr) (n1 c1 n2 c2 n3 c3 : Nat) (f : Fun4) (w : World) (hn : (n1 : Int) ≤ 140737488351232) :
  Calls Tryz.prog 57 #[.agg #[.slice A1 n1 c1, .slice A2 n2 c2, .slice A3 n3 c3], .agg #[.string f.name, .int .i64 f.len, .int .i64 f.a0, .int .i64 f.a1, .int .i64 f.a2, .int .i64 f.res]] w fun e w' => e = .returned (.bool (funB n1 f)) ∧ Below w.heap.size w w' := by
 have HI := kp (show ∀ k, k < 3 → ∀ w, (Instr.index 53 (.agg #[.int .i64 f.a0, .int .i64 f.a1, .int .i64 f.a2]) (.int .i64 (k : Nat))).run Tryz.prog w = .ok (.int .i64 (argOf f k)) w from fun k hk w => by
  have : k = 0 ∨ k = 1 ∨ k = 2 := by omega
  rcases this with rfl | rfl | rfl
  ·exact (show (Instr.index 53 (.agg #[.int .i64 f.a0, .int .i64 f.a1, .int .i64 f.a2]) (.int .i64 0)).run Tryz.prog w = .ok (.int .i64 f.a0) w by kernel_rfl)
  ·exact (show (Instr.index 53 (.agg #[.int .i64 f.a0, .int .i64 f.a1, .int .i64 f.a2]) (.int .i64 1)).run Tryz.prog w = .ok (.int .i64 f.a1) w by kernel_rfl)
  ·exact (show (Instr.index 53 (.agg #[.int .i64 f.a0, .int .i64 f.a1, .int .i64 f.a2]) (.int .i64 2)).run Tryz.prog w = .ok (.int .i64 f.a2) w by kernel_rfl))
 have HF := kp (funB_eq n1 f)
 have HS := kp (okTo_succ n1 f)
 have HX := kp (fun k hk h => okTo_stop (n := n1) (f := f) (k := k) hk h)
 have HTh := kp (fun s W => there_any A1 A2 A3 n1 c1 n2 c2 n3 c3 s W hn)
 have HArg := kp (show ∀ k a, argB n1 f.len k a = if (k : Int) < f.len then thereB n1 a else a == 0 from fun _ _ => rfl)
 generalize funB n1 f = fb at *
 generalize hokk : okTo n1 f = ok at *
 have HZ := kp (show ok 0 = true by rw [← hokk]; rfl)
 clear hokk
 generalize hagg : argOf f = ag at *
 clear hagg
 generalize f.len = len at *
 generalize f.res = res at *
 generalize f.name = name at *
 generalize f.a0 = a0 at *
 generalize f.a1 = a1 at *
 generalize f.a2 = a2 at *
 by_cases h0 : len < 0
 ·go_enter Tryz.func57, Tryz.ntmps57
  go_wp2_with fail
  go_ret
  exact ⟨ret_bool (by rw [HF.out, decide_eq_false (show ¬ (0 ≤ len ∧ len ≤ 3) by omega)]; rfl), ((Below.refl _ _).alloc (Nat.le_refl _) _).alloc (by simp) _⟩
 ·have h0' := decide_eq_false h0
  by_cases h1 : 3 < len
  ·go_enter Tryz.func57, Tryz.ntmps57
   go_wp2_with fail
   go_ret
   exact ⟨ret_bool (by rw [HF.out, decide_eq_false (show ¬ (0 ≤ len ∧ len ≤ 3) by omega)]; rfl), ((Below.refl _ _).alloc (Nat.le_refl _) _).alloc (by simp) _⟩
  ·have h1' := decide_eq_false h1
   replace HF := kp (show fb = (thereB n1 res && ok 3) by rw [HF.out, decide_eq_true (show 0 ≤ len ∧ len ≤ 3 by omega)]; rfl)
   obtain ⟨g0, g1, g2⟩ := sig_cells w (.slice A1 n1 c1) (.slice A2 n2 c2) (.slice A3 n3 c3) 26
   have hz1 : (w.alloc (.cells #[.slice A1 n1 c1, .slice A2 n2 c2, .slice A3 n3 c3] 26)).heap.size = w.heap.size + 1 := by simp
   have B1 := kp ((Below.refl w.heap.size w).alloc (Nat.le_refl _) (.cells #[.slice A1 n1 c1, .slice A2 n2 c2, .slice A3 n3 c3] 26))
   go_enter Tryz.func57, Tryz.ntmps57
   go_wp2_with fail
   generalize w.alloc (.cells #[.slice A1 n1 c1, .slice A2 n2 c2, .slice A3 n3 c3] 26) = w1 at *
   have B2 := kp ((Below.refl w1.heap.size w1).alloc (Nat.le_refl _) (.cells #[.string name, .int .i64 len, .int .i64 a0, .int .i64 a1, .int .i64 a2, .int .i64 res] 104))
   have f1 : (w1.alloc (.cells #[.string name, .int .i64 len, .int .i64 a0, .int .i64 a1, .int .i64 a2, .int .i64 res] 104)).cell? ⟨w1.heap.size, 1, none⟩ = some (.int .i64 len) := by rw [World.cell?_alloc_mark]; rfl
   have f2 : (w1.alloc (.cells #[.string name, .int .i64 len, .int .i64 a0, .int .i64 a1, .int .i64 a2, .int .i64 res] 104)).cell? ⟨w1.heap.size, 2, none⟩ = some (.int .i64 a0) := by rw [World.cell?_alloc_mark]; rfl
   have f3 : (w1.alloc (.cells #[.string name, .int .i64 len, .int .i64 a0, .int .i64 a1, .int .i64 a2, .int .i64 res] 104)).cell? ⟨w1.heap.size, 3, none⟩ = some (.int .i64 a1) := by rw [World.cell?_alloc_mark]; rfl
   have f4 : (w1.alloc (.cells #[.string name, .int .i64 len, .int .i64 a0, .int .i64 a1, .int .i64 a2, .int .i64 res] 104)).cell? ⟨w1.heap.size, 4, none⟩ = some (.int .i64 a2) := by rw [World.cell?_alloc_mark]; rfl
   have hz2 : (w1.alloc (.cells #[.string name, .int .i64 len, .int .i64 a0, .int .i64 a1, .int .i64 a2, .int .i64 res] 104)).heap.size = w1.heap.size + 1 := by simp
   have hg0 := ((bcell B2.out).1 w.heap.size 0 (by omega)).trans g0
   have hg1 := ((bcell B2.out).1 w.heap.size 1 (by omega)).trans g1
   have hg2 := ((bcell B2.out).1 w.heap.size 2 (by omega)).trans g2
   generalize w1.alloc (.cells #[.string name, .int .i64 len, .int .i64 a0, .int .i64 a1, .int .i64 a2, .int .i64 res] 104) = w2 at *
   clear g0 g1 g2
   rw [hz1] at f1 f2 f3 f4 hz2
   have B02 := kp (B1.out.trans (B2.out.mono (by omega)))
   have hcall := HTh.out res w2
   cases hres : thereB n1 res with
   | false =>
    replace HF := kp (show fb = false by rw [HF.out, hres]; rfl)
    rw [hres] at hcall
    clear hres
    refine hcall.mono ?_
    rintro e w3 ⟨rfl, hb⟩
    have B3 := kp (B02.out.trans (hb.mono B02.out.size))
    clear hb
    go_wp2_with fail
    go_ret
    exact ⟨ret_bool HF.out.symm, B3.out⟩
   | true =>
    replace HF := kp (show fb = ok 3 by rw [HF.out, hres]; rfl)
    rw [hres] at hcall
    clear hres
    refine hcall.mono ?_
    rintro e w3 ⟨rfl, hb⟩
    have B3 := kp (B02.out.trans (hb.mono B02.out.size))
    have k0 := ((bcell hb).1 w.heap.size 0 (by omega)).trans hg0
    have k1 := ((bcell hb).1 w.heap.size 1 (by omega)).trans hg1
    have k2 := ((bcell hb).1 w.heap.size 2 (by omega)).trans hg2
    have j1 := ((bcell hb).1 (w.heap.size + 1) 1 (by omega)).trans f1
    have j2 := ((bcell hb).1 (w.heap.size + 1) 2 (by omega)).trans f2
    have j3 := ((bcell hb).1 (w.heap.size + 1) 3 (by omega)).trans f3
    have j4 := ((bcell hb).1 (w.heap.size + 1) 4 (by omega)).trans f4
    have hz3 : w.heap.size + 2 ≤ w3.heap.size := by have := hb.size; omega
    clear hb hg0 hg1 hg2 f1 f2 f3 f4
    go_wp2_with fail
    go_loopw [24] (fun v wr => ∃ k : Nat, k ≤ 3 ∧ v = .int .i64 k ∧ ok k = true ∧ Below w3.heap.size w3 wr) (fun v _ => 3 - (intOf v).toNat)
    case atStart => exact ⟨0, by omega, rfl, HZ.out, Below.refl _ _⟩
    case round =>
     obtain ⟨k, hk, rfl, hok, hb⟩ := hrel
     have HO := kp hok
     have HB := kp hb
     have p0 := ((bcell hb).1 w.heap.size 0 (by omega)).trans k0
     have p1 := ((bcell hb).1 w.heap.size 1 (by omega)).trans k1
     have p2 := ((bcell hb).1 w.heap.size 2 (by omega)).trans k2
     have q1 := ((bcell hb).1 (w.heap.size + 1) 1 (by omega)).trans j1
     clear hok hb
     by_cases hlt : k < 3
     ·have hlt2 : (k : Int) < 3 := by omega
      have ik := HI.out k hlt
      have HA := kp (HArg.out k (ag k))
      have HN := kp (HS.out k)
      have HE := kp (HX.out k hlt)
      generalize ag k = x at *
      by_cases hl : (k : Int) < len
      ·replace HA := kp (HA.out.trans (if_pos hl))
       have hc := HTh.out x wr
       cases ht : thereB n1 x with
       | true =>
        replace HN := kp (show ok (k + 1) = true by rw [HN.out, HO.out, HA.out, ht]; rfl)
        rw [ht] at hc
        clear ht
        have hge : decide (len ≤ (k : Int)) = false := decide_eq_false (by omega)
        go_wp2_with fail
        refine hc.mono ?_
        rintro e w4 ⟨rfl, hb⟩
        have HB4 := kp (HB.out.trans (hb.mono HB.out.size))
        have hq := ((bcell hb).1 (w.heap.size + 1) 1 (by have := HB.out.size; omega)).trans q1
        clear hb
        go_wp2_with fail
        go_roundw
        case rel => exact ⟨k + 1, by omega, by go_num, HN.out, HB4.out⟩
        case measure => simp [intOf]; omega
       | false =>
        replace HE := kp (show fb = false by rw [HF.out]; exact HE.out (by rw [HA.out, ht]))
        rw [ht] at hc
        clear ht
        go_wp2_with fail
        refine hc.mono ?_
        rintro e w4 ⟨rfl, hb⟩
        have HB4 := kp (B3.out.trans ((HB.out.trans (hb.mono HB.out.size)).mono (by omega)))
        clear hb
        go_wp2_with fail
        go_ret
        exact ⟨ret_bool HE.out.symm, HB4.out⟩
      ·have hl' := decide_eq_false hl
       have hge : len ≤ (k : Int) := by omega
       replace HA := kp (HA.out.trans (if_neg hl))
       by_cases hx : x = 0
       ·replace HN := kp (show ok (k + 1) = true by rw [HN.out, HO.out, HA.out, hx]; rfl)
        rw [hx] at ik
        clear hx
        go_wp2_with fail
        go_roundw
        case rel => exact ⟨k + 1, by omega, by go_num, HN.out, HB.out⟩
        case measure => simp [intOf]; omega
       ·have hx' : (x == 0) = false := beq_eq_false_iff_ne.2 hx
        have hx'' : (x != 0) = true := by rw [bne, hx']; rfl
        replace HE := kp (show fb = false by rw [HF.out]; exact HE.out (by rw [HA.out, hx']))
        have HB4 := kp (B3.out.trans (HB.out.mono (by omega)))
        go_wp2_with fail
        go_ret
        exact ⟨ret_bool HE.out.symm, HB4.out⟩
     ·obtain rfl : k = 3 := by omega
      have HB4 := kp (B3.out.trans (HB.out.mono (by omega)))
      have HR := kp (HF.out.trans HO.out)
      go_wp2_with fail
      go_ret
      exact ⟨ret_bool HR.out.symm, HB4.out⟩
end Go.Proofs.YtpmdcckapddchaaGreat.Sg
/- The document's sig: names found, whether one is free. -/
namespace Go.Proofs.YtpmdcckapddchaaGreat.Sg
open Go.RowKit Go.Proofs.YtpmdcckapddchaaGreat.Dt

theorem text_ne {a b : ByteArray} (h : ¬ a = b) : (a.toList == b.toList) = false := by
 refine beq_eq_false_iff_ne.2 fun e => h ?_
 rw [Lx.bs_toList, Lx.bs_toList] at e
 exact ByteArray.ext (Array.toList_inj.1 e)
theorem map_at {α β : Type} {l : List α} {nm : α → β} {k : Nat} {x : α} (h : l[k]? = some x) : (l.map nm)[k]? = some (nm x) := by rw [List.getElem?_map, h]; rfl
def hasB (l : List ByteArray) (s : ByteArray) : Bool := l.any fun x => decide (x = s)
def findAt (l : List ByteArray) (s : ByteArray) : Nat := if hasB l s then l.findIdx (fun x => decide (x = s)) else 0
theorem hasB_iff {l : List ByteArray} {s : ByteArray} : hasB l s = true ↔ s ∈ l := by simp [hasB]
theorem hasB_not {l : List ByteArray} {s : ByteArray} : hasB l s = false ↔ s ∉ l := by rw [← hasB_iff]; simp
section
variable {l : List ByteArray} {s : ByteArray} {k : Nat}
theorem findAt_stop (hk : l[k]? = some s) (h : hasB (l.take k) s = false) : findAt l s = k ∧ hasB l s = true := by
 have hc : hasB l s = true := hasB_iff.2 (List.mem_of_getElem? hk)
 refine ⟨?_, hc⟩
 unfold findAt
 rw [if_pos hc]
 obtain ⟨hlt, he⟩ := List.getElem?_eq_some_iff.1 hk
 have hn := hasB_not.1 h
 rw [List.findIdx_eq hlt]
 refine ⟨by simp [he], fun j hj => ?_⟩
 simp only [decide_eq_false_iff_not]
 intro e
 exact hn (List.mem_take_iff_getElem.2 ⟨j, by omega, e⟩)
theorem findAt_none (h : hasB l s = false) : findAt l s = 0 ∧ hasB l s = false := by
 refine ⟨?_, h⟩
 unfold findAt
 rw [h]; rfl
theorem find_step {x : ByteArray} (hk : l[k]? = some x) (h : hasB (l.take k) s = false) (hx : x ≠ s) : hasB (l.take (k + 1)) s = false := by
 rw [hasB_not] at h ⊢
 rw [List.take_add_one, hk]
 intro hc
 rcases List.mem_append.1 hc with h1 | h1
 ·exact h h1
 ·simp at h1; exact hx h1.symm
end
def allSorts (l : List ByteArray) : List ByteArray := { data := #[66, 111, 111, 108] } :: { data := #[73, 110, 116] } :: l
end Go.Proofs.YtpmdcckapddchaaGreat.Sg
/- The document's sig: whether a name is free. -/
namespace Go.Proofs.YtpmdcckapddchaaGreat.Sg
open Go.RowKit Go.Proofs.YtpmdcckapddchaaGreat.Dt

theorem ret_int {a b : Int} (h : a = b) : Ending.returned (.int .i64 a) = .returned (.int .i64 b) := by rw [h]
end Go.Proofs.YtpmdcckapddchaaGreat.Sg
/- The document's sig: sorts' names, whether a function may be. -/
namespace Go.Proofs.YtpmdcckapddchaaGreat.Sg
open Go.RowKit Go.Proofs.YtpmdcckapddchaaGreat.Dt

end Go.Proofs.YtpmdcckapddchaaGreat.Sg
/- The document's sig: whether a macro may be. -/
namespace Go.Proofs.YtpmdcckapddchaaGreat.Sg
open Go.RowKit Go.Proofs.YtpmdcckapddchaaGreat.Dt

def paramB (n : Nat) (ps : List Param) (i : Nat) : Bool := match ps[i]? with
 | none => true
 | some p => usableB (Lx.bs p.name) && thereB n p.sort && !hasB ((ps.map Param.name).take i) p.name
def paramsTo (n : Nat) (ps : List Param) (k : Nat) : Bool := (List.range k).all (paramB n ps)
def macroB (n : Nat) (m : Macro) : Bool := decide (m.params.length ≤ 3) && thereB n m.res && m.body.may && paramsTo n m.params m.params.length
theorem paramsTo_succ (n : Nat) (ps : List Param) (k : Nat) : paramsTo n ps (k + 1) = (paramsTo n ps k && paramB n ps k) := by unfold paramsTo; rw [List.range_succ, List.all_append]; simp
theorem paramsTo_stop {n : Nat} {ps : List Param} {k : Nat} (hk : k < ps.length) (h : paramB n ps k = false) : paramsTo n ps ps.length = false := by
 unfold paramsTo
 rw [List.all_eq_false]
 exact ⟨k, List.mem_range.2 hk, by rw [h]; simp⟩
theorem paramB_at {n : Nat} {ps : List Param} {k : Nat} {p : Param} (h : ps[k]? = some p) : paramB n ps k = (Lx.mayB (Lx.bs p.name) && !Lx.resB (Lx.bs p.name) && thereB n p.sort && !hasB ((ps.map Param.name).take k) p.name) := by unfold paramB; rw [h]; rfl
theorem mac_cells (w : World) (a b c d e f : Value) (t : TypeId) : (w.alloc (.cells #[a, b, c, d, e, f] t)).cell? ⟨w.heap.size, 1, none⟩ = some b ∧ (w.alloc (.cells #[a, b, c, d, e, f] t)).cell? ⟨w.heap.size, 2, none⟩ = some c ∧ (w.alloc (.cells #[a, b, c, d, e, f] t)).cell? ⟨w.heap.size, 3, none⟩ = some d ∧ (w.alloc (.cells #[a, b, c, d, e, f] t)).cell? ⟨w.heap.size, 4, none⟩ = some e ∧ (w.alloc (.cells #[a, b, c, d, e, f] t)).cell? ⟨w.heap.size, 5, none⟩ = some f := by
 refine ⟨?_, ?_, ?_, ?_, ?_⟩ <;> rw [World.cell?_alloc_mark] <;> rfl
structure Boxes (w : World) (b : Nat) (u0 u1 u2 m1 m2 m3 m4 m5 : Value) : Prop where
 lt : b + 1 < w.heap.size
 u0 : w.cell? ⟨b, 0, none⟩ = some u0
 u1 : w.cell? ⟨b, 1, none⟩ = some u1
 u2 : w.cell? ⟨b, 2, none⟩ = some u2
 m1 : w.cell? ⟨b + 1, 1, none⟩ = some m1
 m2 : w.cell? ⟨b + 1, 2, none⟩ = some m2
 m3 : w.cell? ⟨b + 1, 3, none⟩ = some m3
 m4 : w.cell? ⟨b + 1, 4, none⟩ = some m4
 m5 : w.cell? ⟨b + 1, 5, none⟩ = some m5
theorem Boxes.on {w w' : World} {b : Nat} {u0 u1 u2 m1 m2 m3 m4 m5 : Value} (h : Boxes w b u0 u1 u2 m1 m2 m3 m4 m5) (hb : Below w.heap.size w w') : Boxes w' b u0 u1 u2 m1 m2 m3 m4 m5 := by
 have l0 : b < w.heap.size := by have := h.lt; omega
 exact ⟨Nat.lt_of_lt_of_le h.lt hb.size, ((bcell hb).1 b 0 l0).trans h.u0, ((bcell hb).1 b 1 l0).trans h.u1, ((bcell hb).1 b 2 l0).trans h.u2, ((bcell hb).1 (b + 1) 1 h.lt).trans h.m1, ((bcell hb).1 (b + 1) 2 h.lt).trans h.m2, ((bcell hb).1 (b + 1) 3 h.lt).trans h.m3, ((bcell hb).1 (b + 1) 4 h.lt).trans h.m4, ((bcell hb).1 (b + 1) 5 h.lt).trans h.m5⟩

theorem boxes_made (w : World) (u0 u1 u2 m0 m1 m2 m3 m4 m5 : Value) (t t' : TypeId) : Boxes ((w.alloc (.cells #[u0, u1, u2] t)).alloc (.cells #[m0, m1, m2, m3, m4, m5] t')) w.heap.size u0 u1 u2 m1 m2 m3 m4 m5 := by
 obtain ⟨g0, g1, g2⟩ := sig_cells w u0 u1 u2 t
 obtain ⟨k1, k2, k3, k4, k5⟩ := mac_cells (w.alloc (.cells #[u0, u1, u2] t)) m0 m1 m2 m3 m4 m5 t'
 have hz : (w.alloc (.cells #[u0, u1, u2] t)).heap.size = w.heap.size + 1 := by simp
 have hb := (Below.refl (w.alloc (.cells #[u0, u1, u2] t)).heap.size (w.alloc (.cells #[u0, u1, u2] t))).alloc (Nat.le_refl _) (.cells #[m0, m1, m2, m3, m4, m5] t')
 have e := fun o => (bcell hb).1 w.heap.size o (by omega)
 rw [hz] at k1 k2 k3 k4 k5
 exact ⟨by simp, (e 0).trans g0, (e 1).trans g1, (e 2).trans g2, k1, k2, k3, k4, k5⟩

end Go.Proofs.YtpmdcckapddchaaGreat.Sg
/- What a signature's check tells. No condition. -/
namespace Go.Proofs.YtpmdcckapddchaaGreat.Sg
open Go.RowKit Go.Proofs.YtpmdcckapddchaaGreat.Dt

def allTo (p : Nat → Bool) (k : Nat) : Bool := (List.range k).all p
theorem allTo_zero (p : Nat → Bool) : allTo p 0 = true := rfl
theorem allTo_succ (p : Nat → Bool) (k : Nat) : allTo p (k + 1) = (allTo p k && p k) := by unfold allTo; rw [List.range_succ, List.all_append]; simp
theorem allTo_stop {p : Nat → Bool} {k n : Nat} (hk : k < n) (h : p k = false) : allTo p n = false := by
 unfold allTo
 rw [List.all_eq_false]
 exact ⟨k, List.mem_range.2 hk, by rw [h]; simp⟩
def sortOk (l : List ByteArray) (i : Nat) : Bool := match l[i]? with
 | none => true
 | some s => usableB (Lx.bs s) && !hasB (allSorts (l.take i)) s
def funOk (g : Sig) (i : Nat) : Bool := match g.funs[i]? with
 | none => true
 | some f => usableB (Lx.bs f.name) && !(hasB ((g.funs.map Fun4.name).take i) f.name || coreB (Lx.bs f.name)) && funB g.sorts.length f
def macOk (g : Sig) (i : Nat) : Bool := match g.macros[i]? with
 | none => true
 | some m => usableB (Lx.bs m.name) && !(hasB (g.funs.map Fun4.name) m.name || hasB ((g.macros.map Macro.name).take i) m.name || coreB (Lx.bs m.name)) && macroB g.sorts.length m
def checkB (g : Sig) : Bool :=
 (decide (g.sorts.length ≤ 4) && decide (g.funs.length ≤ 12) && decide (g.macros.length ≤ 12)) && (allTo (sortOk g.sorts) g.sorts.length && allTo (funOk g) g.funs.length && allTo (macOk g) g.macros.length)
def checkE (g : Sig) : Int := if checkB g then 0 else 2
theorem checkE_true {g : Sig} (h : checkB g = true) : checkE g = 0 := by unfold checkE; rw [h]; rfl
theorem checkE_false {g : Sig} (h : checkB g = false) : checkE g = 2 := by unfold checkE; rw [h]; rfl
end Go.Proofs.YtpmdcckapddchaaGreat.Sg
/- Terms in plain words: nodes, tables, what an expression is made to. No program in sight. -/
namespace Go.Proofs.YtpmdcckapddchaaGreat.El
open Go.RowKit Go.Proofs.YtpmdcckapddchaaGreat.Dt Go.Proofs.YtpmdcckapddchaaGreat.Sg

structure Node where
 op : Int
 len : Int
 a0 : Int
 a1 : Int
 a2 : Int
 sort : Int
 fn : Int
 n : Int
deriving DecidableEq
def Node.arg (x : Node) (i : Nat) : Int := if i = 0 then x.a0 else if i = 1 then x.a1 else x.a2
abbrev V := Int × Int
structure St where
 t : List Node
 calls : Int
 e : Int
structure Cx where
 g : Sig
 most : Int
 build : Bool
abbrev Env := List (ByteArray × V)
def v0 : V := (0, 0)
def sLet : ByteArray := { data := #[108, 101, 116] }
def sTrue : ByteArray := { data := #[116, 114, 117, 101] }
def sFalse : ByteArray := { data := #[102, 97, 108, 115, 101] }
def sNot : ByteArray := { data := #[110, 111, 116] }
def sAnd : ByteArray := { data := #[97, 110, 100] }
def sOr : ByteArray := { data := #[111, 114] }
def sXor : ByteArray := { data := #[120, 111, 114] }
def sImp : ByteArray := { data := #[61, 62] }
def sEq : ByteArray := { data := #[61] }
def sDistinct : ByteArray := { data := #[100, 105, 115, 116, 105, 110, 99, 116] }
def sIte : ByteArray := { data := #[105, 116, 101] }
def sLe : ByteArray := { data := #[60, 61] }
def sLt : ByteArray := { data := #[60] }
def sGe : ByteArray := { data := #[62, 61] }
def sGt : ByteArray := { data := #[62] }
def sPlus : ByteArray := { data := #[43] }
def sMinus : ByteArray := { data := #[45] }

def arityN (op : Int) : Option (Int × Int) :=
 if op = 13 then some (0, 3)
 else if op = 0 ∨ op = 10 then some (0, 0)
 else if op = 1 ∨ op = 11 then some (1, 1)
 else if op = 2 ∨ op = 3 ∨ op = 4 ∨ op = 5 ∨ op = 6 ∨ op = 8 ∨ op = 9 ∨ op = 12 then some (2, 2)
 else if op = 7 then some (3, 3)
 else none
def argOkB (n : Node) (at' : Int) (i : Nat) : Bool := if (i : Int) < n.len then decide (0 ≤ n.arg i ∧ n.arg i < at') else decide (n.arg i = 0)
def standsN (n : Node) (at' : Int) : Bool :=
 match arityN n.op with
 | none => false
 | some (lo, hi) => decide (lo ≤ n.len ∧ n.len ≤ hi) && decide (0 ≤ n.sort ∧ n.sort < 6) && argOkB n at' 0 && argOkB n at' 1 && argOkB n at' 2
  && decide (0 ≤ n.fn ∧ n.fn < 12) && (decide (n.fn = 0) || decide (n.op = 13)) && (if n.op = 10 ∨ n.op = 11 ∨ n.op = 12 then mayB n.n else decide (n.n = 0))
def nodeTrue : Node := ⟨0, 0, 0, 0, 0, 0, 0, 0⟩
def nodeZero : Node := ⟨10, 0, 0, 0, 0, 1, 0, 0⟩
def newT : List Node := [nodeTrue, nodeZero]
def standsTo (t : List Node) (k : Nat) : Bool := (List.range k).all fun i => match t[i]? with
 | some n => standsN n i
 | none => true
def checkT (t : List Node) : Bool := decide (t.take 2 = newT) && standsTo t t.length && decide t.Nodup
def putT (t : List Node) (n : Node) (most : Int) : List Node × Int × Int :=
 if checkT t && standsN n t.length then
  if n ∈ t then (t, (t.findIdx (fun x => decide (x = n)) : Nat), 0)
  else if most ≤ t.length then ([], 0, 40)
  else (t ++ [n], t.length, 0)
 else ([], 0, 2)
def opS (op : Int) (l : List Int) : Option Int :=
 if op = 0 then (if l = [] then some 0 else none)
 else if op = 1 then (if l = [0] then some 0 else none)
 else if op = 2 ∨ op = 3 ∨ op = 4 ∨ op = 5 then (if l = [0, 0] then some 0 else none)
 else if op = 6 then (match l with | [a, b] => if 0 ≤ a ∧ a = b then some 0 else none | _ => none)
 else if op = 7 then (match l with | [a, b, c] => if a = 0 ∧ 0 ≤ b ∧ b = c then some b else none | _ => none)
 else if op = 8 ∨ op = 9 ∨ op = 12 then (if l = [1, 1] then some 0 else none)
 else if op = 10 then (if l = [] then some 1 else none)
 else if op = 11 then (if l = [1] then some 1 else none)
 else none

def numN (x : Sexp) : Option (Int × Int) :=
 if x.kind = 1 then some (parseV (Lx.bs x.text), parseE (Lx.bs x.text))
 else if headS x = sMinus then match x.l with
  | [_, y] => if y.kind = 1 then some (- parseV (Lx.bs y.text), parseE (Lx.bs y.text)) else none
  | _ => none
 else none
def isNumX (x : Sexp) : Bool := (numN x).isSome
def findE (env : Env) (s : ByteArray) : Option V := (env.find? fun p => decide (p.1 = s)).map Prod.snd

def failS (e : Int) (st : St) : St := if st.e = 0 then { st with e := e } else st
def putM (c : Cx) (n : Node) (st : St) : V × St :=
 if st.e ≠ 0 ∨ c.build = false then ((n.sort, 0), st)
 else if (putT st.t n c.most).2.2 = 0 then ((n.sort, (putT st.t n c.most).2.1), { st with t := (putT st.t n c.most).1 })
 else (v0, { st with e := (putT st.t n c.most).2.2 })
def nthN (l : List V) (i : Nat) : Int := (l.getD i v0).2
def opM (c : Cx) (op n : Int) (l : List V) (st : St) : V × St :=
 if st.e ≠ 0 then (v0, st)
 else match opS op (l.map Prod.fst) with
  | none => (v0, { st with e := 33 })
  | some s => putM c ⟨op, l.length, nthN l 0, nthN l 1, nthN l 2, s, 0, if c.build then n else 0⟩ st
def numberM (c : Cx) (x : Sexp) (st : St) : Int × St := match numN x with
 | none => (0, st)
 | some (n, e) => (n, if e ≠ 0 ∧ c.build = true then failS e st else st)
abbrev Rec := Nat → Sexp → Env → St → V × St
def allM (r : Sexp → St → V × St) : List Sexp → St → List V × St
 | [], st => ([], st)
 | x :: l, st => ((r x st).1 :: (allM r l (r x st).2).1, (allM r l (r x st).2).2)
def sortsM : List V → List Int → St → St
 | v :: l, s :: q, st => sortsM l q (if st.e = 0 ∧ v.1 ≠ s then { st with e := 33 } else st)
 | _, _, st => st
def applyM (c : Cx) (r : Sexp → St → V × St) (f : Fun4) (k : Nat) (l : List Sexp) (st : St) : V × St :=
 if (l.length : Int) ≠ f.len then (v0, failS 30 st)
 else
  let a := allM r l st
  putM c ⟨13, f.len, nthN a.1 0, nthN a.1 1, nthN a.1 2, f.res, k, 0⟩ (sortsM a.1 [f.a0, f.a1, f.a2] a.2)
def macroM (c : Cx) (rec : Rec) (m : Macro) (k : Nat) (vs : List V) (st : St) : V × St :=
 let st2 := sortsM vs (m.params.map Param.sort) st
 if st2.e ≠ 0 ∨ c.build = false then ((m.res, 0), st2)
 else if 300 < st2.calls + 1 then (v0, { st2 with calls := st2.calls + 1, e := 40 })
 else
  let p := rec k m.body ((m.params.map Param.name).zip vs).reverse { st2 with calls := st2.calls + 1 }
  if p.2.e = 0 ∧ p.1.1 ≠ m.res then (v0, { p.2 with e := 33 }) else p
def callM (c : Cx) (rec : Rec) (known : Nat) (name : ByteArray) (l : List Sexp) (env : Env) (st : St) : V × St :=
 if hasB (c.g.funs.map Fun4.name) name then match c.g.funs[findAt (c.g.funs.map Fun4.name) name]? with
  | some f => applyM c (fun x => rec known x env) f (findAt (c.g.funs.map Fun4.name) name) l st
  | none => (v0, st)
 else if hasB (c.g.macros.map Macro.name) name ∧ findAt (c.g.macros.map Macro.name) name < known then match c.g.macros[findAt (c.g.macros.map Macro.name) name]? with
  | some m =>
   if l.length ≠ m.params.length then (v0, failS 30 st)
   else macroM c rec m (findAt (c.g.macros.map Macro.name) name) (allM (fun x => rec known x env) l st).1 (allM (fun x => rec known x env) l st).2
  | none => (v0, st)
 else (v0, failS 31 st)
def bindN (b : Sexp) : Option ByteArray := if b.kind = 3 then match b.l with
  | [y, _] => if y.kind = 0 ∧ Lx.resB (Lx.bs y.text) = false then some y.text else none
  | _ => none
 else none
def boundN (x : Sexp) : Option (List ByteArray) := match x.l with
 | [_, b, _] =>
  if b.kind = 3 ∧ b.l ≠ [] then b.l.foldl (fun (o : Option (List ByteArray)) y => o.bind fun ns => (bindN y).bind fun s => if hasB ns s then none else some (ns ++ [s])) (some []) else none
 | _ => none
def secondX (b : Sexp) : Sexp := b.l.getD 1 (.mk 0 { data := #[] } [])
def nthX (x : Sexp) (i : Nat) : Sexp := x.l.getD i (.mk 0 { data := #[] } [])
def letM (rec : Rec) (known : Nat) (x : Sexp) (env : Env) (st : St) : V × St := match boundN x with
 | none => (v0, failS 30 st)
 | some names =>
  let a := allM (fun y => rec known y env) ((nthX x 1).l.map secondX) st
  rec known (nthX x 2) ((names.zip a.1).reverse ++ env) a.2
def leftM (c : Cx) (op : Int) (v : V) : List V → St → V × St
 | [], st => (v, st)
 | x :: l, st => leftM c op (opM c op 0 [v, x] st).1 l (opM c op 0 [v, x] st).2
def headM (c : Cx) (op : Int) (l : List V) (st : St) : V × St := leftM c op (l.getD 0 v0) l.tail st
def impM (c : Cx) (v : V) : List V → St → V × St
 | [], st => (v, st)
 | x :: l, st => impM c (opM c 5 0 [x, v] st).1 l (opM c 5 0 [x, v] st).2
def alikeB (l : List V) : Bool := l.all fun v => v.1 == (l.getD 0 v0).1
def eqsM (c : Cx) : V → List V → St → List V × St
 | _, [], st => ([], st)
 | v, x :: l, st => let p := opM c 6 0 [v, x] st; ((p.1 :: (eqsM c x l p.2).1), (eqsM c x l p.2).2)
def neqsM (c : Cx) (v : V) : List V → St → List V × St
 | [], st => ([], st)
 | x :: l, st =>
  let p := opM c 6 0 [v, x] st
  let q := opM c 1 0 [p.1] p.2
  (q.1 :: (neqsM c v l q.2).1, (neqsM c v l q.2).2)
def distinctL (c : Cx) : List V → St → List V × St
 | [], st => ([], st)
 | v :: l, st => let a := neqsM c v l st; (a.1 ++ (distinctL c l a.2).1, (distinctL c l a.2).2)
def equalM (c : Cx) (l : List V) (st : St) : V × St :=
 let st1 := if alikeB l then st else failS 33 st
 if st1.e ≠ 0 then (v0, st1) else headM c 2 (eqsM c (l.getD 0 v0) l.tail st1).1 (eqsM c (l.getD 0 v0) l.tail st1).2
def distinctM (c : Cx) (l : List V) (st : St) : V × St :=
 let st1 := if alikeB l then st else failS 33 st
 if st1.e ≠ 0 then (v0, st1) else headM c 2 (distinctL c l st1).1 (distinctL c l st1).2
def wayN (s : ByteArray) : Option (Nat × Nat × Nat) :=
 if s = sNot then some (0, 1, 1) else if s = sAnd then some (1, 2, 1048576) else if s = sOr then some (2, 2, 1048576) else if s = sXor then some (3, 2, 1048576)
 else if s = sImp then some (4, 2, 1048576) else if s = sEq then some (5, 2, 1048576) else if s = sDistinct then some (6, 2, 1048576) else if s = sIte then some (7, 3, 3)
 else if s = sLe then some (8, 2, 2) else if s = sLt then some (9, 2, 2) else if s = sGe then some (10, 2, 2) else if s = sGt then some (11, 2, 2) else none
def makeM (c : Cx) (way : Nat) (l : List V) (st : St) : V × St :=
 if way = 0 then opM c 1 0 l st
 else if way = 1 then headM c 2 l st
 else if way = 2 then headM c 3 l st
 else if way = 3 then headM c 4 l st
 else if way = 4 then impM c (l.reverse.getD 0 v0) l.reverse.tail st
 else if way = 5 then equalM c l st
 else if way = 6 then distinctM c l st
 else if way = 7 then opM c 7 0 l st
 else if way = 8 then opM c 8 0 l st
 else if way = 9 then opM c 9 0 l st
 else if way = 10 then opM c 8 0 [l.getD 1 v0, l.getD 0 v0] st
 else opM c 9 0 [l.getD 1 v0, l.getD 0 v0] st
def minusB (x : Sexp) : Bool := decide (headS x = sMinus) && decide (x.l.length = 3) && !isNumX (nthX x 2)
def diffM (c : Cx) (x y : V) (n : Int) (st : St) : V × St :=
 if c.build = true ∧ st.e = 0 ∧ mayB n = false then (v0, { st with e := 10 }) else opM c 12 n [x, y] st
def heldM (c : Cx) (name : ByteArray) (a b : V) (n : Int) (st : St) : V × St :=
 if name = sLe then diffM c a b n st
 else if name = sLt then diffM c a b (n - 1) st
 else if name = sGe then diffM c b a (-n) st
 else if name = sGt then diffM c b a (-n - 1) st
 else
  let p := diffM c a b n st
  let q := diffM c b a (-n) p.2
  opM c 2 0 [p.1, q.1] q.2
def turnN (s : ByteArray) : ByteArray := if s = sLe then sGe else if s = sLt then sGt else if s = sGe then sLe else if s = sGt then sLt else s
def comparesB (s : ByteArray) : Bool := decide (s = sLe) || decide (s = sLt) || decide (s = sGe) || decide (s = sGt) || decide (s = sEq)
def differsN (name : ByteArray) (x : Sexp) : Nat :=
 if x.l.length = 3 ∧ comparesB name = true then
  if minusB (nthX x 1) && isNumX (nthX x 2) then 1 else if minusB (nthX x 2) && isNumX (nthX x 1) then 2 else 0
 else 0
def diffLM (c : Cx) (r : Sexp → St → V × St) (name : ByteArray) (x : Sexp) (st : St) : V × St :=
 let a := r (nthX (nthX x 1) 1) st
 let b := r (nthX (nthX x 1) 2) a.2
 let n := numberM c (nthX x 2) b.2
 heldM c name a.1 b.1 n.1 n.2
def diffRM (c : Cx) (r : Sexp → St → V × St) (name : ByteArray) (x : Sexp) (st : St) : V × St :=
 let n := numberM c (nthX x 1) st
 let a := r (nthX (nthX x 2) 1) n.2
 let b := r (nthX (nthX x 2) 2) a.2
 heldM c (turnN name) a.1 b.1 n.1 b.2
def sumM (c : Cx) (r : Sexp → St → V × St) (name : ByteArray) (x : Sexp) (st : St) : V × St :=
 if x.l.length = 2 ∧ name = sMinus then (v0, failS 34 (r (nthX x 1) st).2)
 else if x.l.length ≠ 3 then (v0, failS 30 st)
 else if isNumX (nthX x 2) then
  let v := r (nthX x 1) st
  let n := numberM c (nthX x 2) v.2
  opM c 11 (if name = sMinus then - n.1 else n.1) [v.1] n.2
 else if name = sPlus ∧ isNumX (nthX x 1) = true then
  let n := numberM c (nthX x 1) st
  let v := r (nthX x 2) n.2
  opM c 11 n.1 [v.1] v.2
 else (v0, failS 34 (allM r x.l.tail st).2)
def listM (c : Cx) (rec : Rec) (known : Nat) (x : Sexp) (env : Env) (st : St) : V × St :=
 if headS x = sLet then letM rec known x env st
 else if Lx.resB (Lx.bs (headS x)) = true ∨ headS x = sTrue ∨ headS x = sFalse then (v0, failS 30 st)
 else if headS x = sPlus ∨ headS x = sMinus then sumM c (fun y => rec known y env) (headS x) x st
 else match wayN (headS x) with
  | none => if x.l.tail.length = 0 then (v0, failS 30 st) else callM c rec known (headS x) x.l.tail env st
  | some (way, least, most) =>
   if x.l.tail.length < least ∨ most < x.l.tail.length then (v0, failS 30 st)
   else if differsN (headS x) x = 1 then diffLM c (fun y => rec known y env) (headS x) x st
   else if differsN (headS x) x = 2 then diffRM c (fun y => rec known y env) (headS x) x st
   else
    let a := allM (fun y => rec known y env) x.l.tail st
    if a.2.e ≠ 0 then (v0, a.2) else makeM c way a.1 a.2
def isListB (x : Sexp) : Bool := decide (x.kind = 3) && (match x.l with | [] => false | y :: _ => decide (y.kind = 0))
def termStep (c : Cx) (rec : Rec) (known : Nat) (x : Sexp) (env : Env) (st : St) : V × St :=
 if st.e ≠ 0 then (v0, st)
 else if isNumX x then opM c 10 (numberM c x st).1 [] (numberM c x st).2
 else if isListB x then listM c rec known x env st
 else if x.kind ≠ 0 then (v0, failS 30 st)
 else match findE env x.text with
  | some v => (v, st)
  | none =>
   if x.text = sTrue then opM c 0 0 [] st
   else if x.text = sFalse then opM c 1 0 [(opM c 0 0 [] st).1] (opM c 0 0 [] st).2
   else if Lx.resB (Lx.bs x.text) = true then (v0, failS 30 st)
   else callM c rec known x.text [] env st
def termF (c : Cx) : Nat → Rec
 | 0 => fun _ _ _ st => (v0, st)
 | f + 1 => termStep c (termF c f)
end Go.Proofs.YtpmdcckapddchaaGreat.El
/- How deep a term goes: steps enough are enough. No program in sight. -/
namespace Go.Proofs.YtpmdcckapddchaaGreat.El
open Go.RowKit Go.Proofs.YtpmdcckapddchaaGreat.Dt Go.Proofs.YtpmdcckapddchaaGreat.Sg

def sumB (ms : List Macro) (k : Nat) : Nat := ((ms.take k).map fun m => 1 + m.body.full).sum
def need (g : Sig) (known : Nat) (x : Sexp) : Nat := x.full + sumB g.macros known
theorem full_pos (x : Sexp) : 1 ≤ x.full := by rw [Sexp.full_eq]; omega
theorem fullL_mem : ∀ {l : List Sexp} {y : Sexp}, y ∈ l → y.full ≤ Sexp.fullL l
 | [], y, h => by cases h
 | x :: r, y, h => by
  rw [Sexp.fullL_cons]
  rcases List.mem_cons.1 h with h | h
  ·subst h; omega
  ·have := fullL_mem h; omega
theorem full_mem {x y : Sexp} (h : y ∈ x.l) : y.full < x.full := by
 have := fullL_mem h
 rw [Sexp.full_eq x]; omega
theorem full_two {x : Sexp} (h : x.l ≠ []) : 2 ≤ x.full := by
 cases hl : x.l with
 | nil => exact absurd hl h
 | cons y r =>
  have h1 := full_mem (x := x) (y := y) (by rw [hl]; simp)
  have h2 := full_pos y
  omega
theorem full_nth {x : Sexp} (h : x.l ≠ []) (i : Nat) : (nthX x i).full < x.full := by
 unfold nthX
 rw [List.getD_eq_getElem?_getD]
 cases hy : x.l[i]? with
 | none =>
  have h1 := full_two h
  have h2 : ((none : Option Sexp).getD (.mk 0 { data := #[] } [])).full = 1 := by show (Sexp.mk 0 { data := #[] } []).full = 1; rw [Sexp.full_eq]; show 1 + (0 : Nat) + Sexp.fullL [] = 1; rw [Sexp.fullL_nil]
  omega
 | some y => exact full_mem (List.mem_of_getElem? hy)
theorem full_nth_le {x : Sexp} (i : Nat) : (nthX x i).full ≤ x.full := by
 by_cases h : x.l = []
 ·unfold nthX
  rw [h]
  have h2 : (Sexp.mk 0 { data := #[] } []).full = 1 := by rw [Sexp.full_eq]; show 1 + (0 : Nat) + Sexp.fullL [] = 1; rw [Sexp.fullL_nil]
  show (Sexp.mk 0 { data := #[] } []).full ≤ _
  rw [h2]; exact full_pos x
 ·exact Nat.le_of_lt (full_nth h i)
theorem sumB_succ {ms : List Macro} {k : Nat} {m : Macro} (h : ms[k]? = some m) : sumB ms (k + 1) = sumB ms k + (1 + m.body.full) := by
 unfold sumB
 rw [List.take_add_one, h]
 simp
theorem sumB_mono (ms : List Macro) {j k : Nat} (h : j ≤ k) : sumB ms j ≤ sumB ms k := by
 induction k with
 | zero => obtain rfl : j = 0 := by omega
           exact Nat.le_refl _
 | succ k ih =>
  rcases Nat.lt_or_ge j (k + 1) with h1 | h1
  ·have := ih (by omega)
   have h2 : sumB ms k ≤ sumB ms (k + 1) := by
    cases hm : ms[k]? with
    | none => unfold sumB; rw [List.take_of_length_le (show ms.length ≤ k by rw [List.getElem?_eq_none_iff] at hm; exact hm), List.take_of_length_le (show ms.length ≤ k + 1 by rw [List.getElem?_eq_none_iff] at hm; omega)]; exact Nat.le_refl _
    | some m => rw [sumB_succ hm]; omega
   omega
  ·obtain rfl : j = k + 1 := by omega
   exact Nat.le_refl _
theorem sumB_lt {ms : List Macro} {k known : Nat} {m : Macro} (h : ms[k]? = some m) (hk : k < known) : m.body.full + sumB ms k < sumB ms known := by
 have h1 := sumB_succ h
 have h2 := sumB_mono ms (show k + 1 ≤ known by omega)
 omega
def Agree (g : Sig) (r1 r2 : Rec) (N : Nat) : Prop := ∀ known y env st, need g known y < N → r1 known y env st = r2 known y env st
theorem allM_congr {r1 r2 : Sexp → St → V × St} : ∀ {l : List Sexp} {st : St}, (∀ y ∈ l, ∀ st, r1 y st = r2 y st) → allM r1 l st = allM r2 l st
 | [], st, _ => rfl
 | x :: l, st, h => by
  unfold allM
  rw [h x (by simp)]
  rw [allM_congr (l := l) (fun y hy st => h y (by simp [hy]) st)]
section
variable {c : Cx} {r1 r2 : Rec} {known : Nat} {x : Sexp} {env : Env} {st : St}
theorem tail_full {y : Sexp} (h : y ∈ x.l.tail) : y.full < x.full := full_mem (List.mem_of_mem_tail h)
theorem callM_congr {l : List Sexp} {name : ByteArray} (h : Agree c.g r1 r2 (need c.g known x)) (hl : ∀ y ∈ l, y.full < x.full) : callM c r1 known name l env st = callM c r2 known name l env st := by
 have hall : ∀ st, allM (fun x => r1 known x env) l st = allM (fun x => r2 known x env) l st := fun st => allM_congr fun y hy st => h _ _ _ _ (by have := hl y hy; unfold need; omega)
 unfold callM
 split
 ·split
  ·unfold applyM
   simp only [hall]
  ·rfl
 ·split
  ·rename_i hk
   split
   ·rename_i m hm
    split
    ·rfl
    ·unfold macroM
     simp only [hall]
     rw [show ∀ e s, r1 (findAt (c.g.macros.map Macro.name) name) m.body e s = r2 (findAt (c.g.macros.map Macro.name) name) m.body e s from fun e s => h _ _ _ _ (by have := sumB_lt hm hk.2; unfold need; omega)]
   ·rfl
  ·rfl
theorem listM_congr (h : Agree c.g r1 r2 (need c.g known x)) (hx : x.l ≠ []) : listM c r1 known x env st = listM c r2 known x env st := by
 have hr : ∀ y, y.full < x.full → ∀ e s, r1 known y e s = r2 known y e s := fun y hy e s => h _ _ _ _ (by unfold need; omega)
 have hall : ∀ st, allM (fun y => r1 known y env) x.l.tail st = allM (fun y => r2 known y env) x.l.tail st := fun st => allM_congr fun y hy st => hr y (tail_full hy) _ _
 have h1 : ∀ i e s, r1 known (nthX x i) e s = r2 known (nthX x i) e s := fun i => hr _ (full_nth hx i)
 have h2 : ∀ i j e s, r1 known (nthX (nthX x i) j) e s = r2 known (nthX (nthX x i) j) e s := fun i j => hr _ (Nat.lt_of_le_of_lt (full_nth_le j) (full_nth hx i))
 unfold listM
 split
 ·unfold letM
  split
  ·rfl
  ·have ha : ∀ st, allM (fun y => r1 known y env) ((nthX x 1).l.map secondX) st = allM (fun y => r2 known y env) ((nthX x 1).l.map secondX) st := fun st => allM_congr fun y hy st => by
    obtain ⟨b, hb, rfl⟩ := List.mem_map.1 hy
    refine hr _ ?_ _ _
    have h3 := full_mem hb
    have h4 := full_nth hx 1
    have h5 : (secondX b).full ≤ b.full := full_nth_le (x := b) 1
    omega
   simp only [ha, h1]
 split
 ·rfl
 split
 ·unfold sumM
  simp only [h1, hall]
 split
 ·split
  ·rfl
  ·exact callM_congr h fun y hy => tail_full hy
 split
 ·rfl
 split
 ·unfold diffLM
  simp only [h2]
 split
 ·unfold diffRM
  simp only [h2]
 ·simp only [hall]
theorem isList_ne (h : isListB x = true) : x.l ≠ [] := by
 intro e
 unfold isListB at h
 rw [e] at h
 simp at h
theorem step_congr (h : Agree c.g r1 r2 (need c.g known x)) : termStep c r1 known x env st = termStep c r2 known x env st := by
 unfold termStep
 split
 ·rfl
 split
 ·rfl
 split
 ·rename_i hl
  exact listM_congr h (isList_ne hl)
 split
 ·rfl
 split
 ·rfl
 split
 ·rfl
 split
 ·rfl
 split
 ·rfl
 ·exact callM_congr h fun y hy => by cases hy
end
theorem termF_more (c : Cx) : ∀ (f1 f2 : Nat), ∀ known x env st, need c.g known x < f1 → need c.g known x < f2 → termF c f1 known x env st = termF c f2 known x env st
 | 0, _, _, _, _, _, h, _ => by omega
 | _ + 1, 0, _, _, _, _, _, h => by omega
 | f1 + 1, f2 + 1, known, x, env, st, h1, h2 => step_congr fun k y e s hy => termF_more c f1 f2 k y e s (by omega) (by omega)
def termP (c : Cx) : Rec := fun known x env st => termF c (need c.g known x + 1) known x env st
theorem termP_of {c : Cx} {f known : Nat} {x : Sexp} {env : Env} {st : St} (h : need c.g known x < f) : termF c f known x env st = termP c known x env st := termF_more c _ _ _ _ _ _ h (Nat.lt_succ_self _)
theorem termP_eq (c : Cx) (known : Nat) (x : Sexp) (env : Env) (st : St) : termP c known x env st = termStep c (termP c) known x env st := by
 show termStep c (termF c (need c.g known x)) known x env st = _
 exact step_congr fun k y e s hy => termP_of hy
end Go.Proofs.YtpmdcckapddchaaGreat.El
