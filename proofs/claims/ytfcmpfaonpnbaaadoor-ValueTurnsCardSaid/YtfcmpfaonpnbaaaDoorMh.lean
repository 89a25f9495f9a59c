import Derived.Test.YtfcmpfaonpnbaaaDoorMg
import Derived.Test.YtfcmpfaonpnbaaaDoorMf
import Derived.Deep.DeepCutAuto
import Derived.Deep.DeepMust
import Derived.Test.YtfcmpfaonpnbaaaDoorMa
import Derived.Test.YtfcmpfaonpnbaaaDoorMe
/- merged by wip/merge.py from: SigChkP NumMay ValPlain -/
/- The program's Check, walked. -/
namespace Go.Proofs.YtfcmpfaonpnbaaaDoor.Sg
open Go.RowKit Go.Proofs.YtfcmpfaonpnbaaaDoor.Dt

theorem cells6 {w W : World} {b o : Nat} {a0 a1 a2 a3 a4 a5 : Value} (hbl : b < w.heap.size) (h : ∀ j u, [a0, a1, a2, a3, a4, a5][j]? = some u → w.cell? ⟨b, o + j, none⟩ = some u) (hW : Below w.heap.size w W) :
    W.cell? ⟨b, o, none⟩ = some a0 ∧ W.cell? ⟨b, o + 1, none⟩ = some a1 ∧ W.cell? ⟨b, o + 2, none⟩ = some a2 ∧ W.cell? ⟨b, o + 3, none⟩ = some a3 ∧ W.cell? ⟨b, o + 4, none⟩ = some a4 ∧ W.cell? ⟨b, o + 5, none⟩ = some a5 :=
  ⟨((bcell hW).1 b _ hbl).trans (h 0 _ rfl), ((bcell hW).1 b _ hbl).trans (h 1 _ rfl), ((bcell hW).1 b _ hbl).trans (h 2 _ rfl), ((bcell hW).1 b _ hbl).trans (h 3 _ rfl), ((bcell hW).1 b _ hbl).trans (h 4 _ rfl), ((bcell hW).1 b _ hbl).trans (h 5 _ rfl)⟩
theorem FreshPost.keep {s : ByteArray} {sort : Bool} {bm k : Nat} {S : Value → Prop} {w w' : World} {e : Ending} (h : FreshPost s sort bm k S w e w') : Keeps (· = bm) w w' := by
  obtain ⟨_, _, _, _, hk⟩ := h
  exact hk
/-- a box of six cells -/
def Box6 (w : World) (b : Nat) (a0 a1 a2 a3 a4 a5 : Value) : Prop :=
  w.cell? ⟨b, 0, none⟩ = some a0 ∧ w.cell? ⟨b, 1, none⟩ = some a1 ∧ w.cell? ⟨b, 2, none⟩ = some a2 ∧ w.cell? ⟨b, 3, none⟩ = some a3 ∧ w.cell? ⟨b, 4, none⟩ = some a4 ∧ w.cell? ⟨b, 5, none⟩ = some a5 ∧ b < w.heap.size
theorem Box6.keeps {w w' : World} {b : Nat} {a0 a1 a2 a3 a4 a5 : Value} {S : Nat → Prop} (h : Box6 w b a0 a1 a2 a3 a4 a5) (hk : Keeps S w w') (hlt : b < w.heap.size) (hS : ¬ S b) : Box6 w' b a0 a1 a2 a3 a4 a5 := by
  obtain ⟨h0, h1, h2, h3, h4, h5, h6⟩ := h
  have e := fun o => hk.cell (b := b) (o := o) hlt hS
  exact ⟨(e 0).trans h0, (e 1).trans h1, (e 2).trans h2, (e 3).trans h3, (e 4).trans h4, (e 5).trans h5, Nat.lt_of_lt_of_le hlt hk.size⟩
theorem box6_cells (w : World) (a0 a1 a2 a3 a4 a5 : Value) (t : TypeId) : Box6 (w.alloc (.cells #[a0, a1, a2, a3, a4, a5] t)) w.heap.size a0 a1 a2 a3 a4 a5 := by
  refine ⟨?_, ?_, ?_, ?_, ?_, ?_, by simp⟩ <;> rw [World.cell?_alloc_mark] <;> rfl

set_option maxRecDepth 100000 in
set_option maxHeartbeats 6400000 in
theorem check_any {w : World} {A1 A2 A3 : Option Addr} {c1 c2 c3 : Nat} {g : Sig} (h : SigAt w A1 c1 A2 c2 A3 c3 g) (hl1 : g.sorts.length ≤ 140737488351232) (hl2 : g.funs.length ≤ 140737488351232) (hl3 : g.macros.length ≤ 140737488351232) :
    Calls Tryd.prog 23 #[.agg #[.slice A1 g.sorts.length c1, .slice A2 g.funs.length c2, .slice A3 g.macros.length c3]] w fun e w' => e = .returned (.int .i64 (checkE g)) ∧ Below w.heap.size w w' := by
  have HW := Lib.hid h
  have HE := Lib.hid (show checkB g = ((decide (g.sorts.length ≤ 4) && decide (g.funs.length ≤ 12) && decide (g.macros.length ≤ 12)) && (allTo (sortOk g.sorts) g.sorts.length && allTo (funOk g) g.funs.length && allTo (macOk g) g.macros.length)) from rfl)
  have HT := Lib.hid (checkE_true (g := g))
  have HF := Lib.hid (checkE_false (g := g))
  generalize checkB g = cb at *
  generalize checkE g = ce at *
  clear h
  generalize hn1 : g.sorts.length = n1 at *
  generalize hn2 : g.funs.length = n2 at *
  generalize hn3 : g.macros.length = n3 at *
  have HS0 := Lib.hid (St.start w (.slice A1 n1 c1) (.slice A2 n2 c2) (.slice A3 n3 c3) 26 (fun _ => False))
  obtain ⟨kb, hkb⟩ := keyOf_name (s := { data := #[66, 111, 111, 108] }) (by decide) true
  obtain ⟨ki, hki⟩ := keyOf_name (s := { data := #[73, 110, 116] }) (by decide) true
  have HKb := Lib.hid hkb
  have HKi := Lib.hid hki
  clear hkb hki
  have hmm := @run_makeMap Tryd.prog
  go_enter Tryd.func23, Tryd.ntmps23
  go_upto_region 1 with fail
  generalize w.alloc (.cells #[.slice A1 n1 c1, .slice A2 n2 c2, .slice A3 n3 c3] 26) = w1 at *
  have HS := HS0
  clear HS0
  have HL := Lib.hid (show 0 < maxLen ∧ 0 + 1 < maxLen by unfold maxLen; omega)
  go_cut [3] from 12 to 15 (fun v W => ∃ bx bm, v = .pointer (some ⟨bx, 0, none⟩) ∧ St w (.slice A1 n1 c1) (.slice A2 n2 c2) (.slice A3 n3 c3) W (some bm) (some (bx, .map (some bm))) 2 (SeenIn (allSorts []) []))
  case first =>
    go_region_with ((first
      | with_reducible refine upon_ins (HS.out.map rfl).drew HL.out.1 HKb.out ?_
      | with_reducible refine upon_ins (HS.out.map rfl).drew HL.out.1 HKi.out ?_
      | with_reducible refine upon_ins ((HS.out.map rfl).box (x := w1.heap.size + 1) (by simp) _).drew HL.out.1 HKb.out ?_
      | with_reducible refine upon_ins ((HS.out.map rfl).box (x := w1.heap.size + 1) (by simp) _).drew HL.out.1 HKi.out ?_
      | with_reducible refine upon_ins ((HS.out.box (x := w1.heap.size) rfl (.map none)).map (by simp)).drew HL.out.1 HKb.out ?_
      | with_reducible refine upon_ins ((HS.out.box (x := w1.heap.size) rfl (.map none)).map (by simp)).drew HL.out.1 HKi.out ?_
      | with_reducible refine upon_ins HS.out HL.out.2 HKb.out ?_
      | with_reducible refine upon_ins HS.out HL.out.2 HKi.out ?_
      | with_reducible refine upon_ins (HS.out.box rfl _) HL.out.2 HKb.out ?_
      | with_reducible refine upon_ins (HS.out.box rfl _) HL.out.2 HKi.out ?_
      | with_reducible refine upon_ins (HS.out.put _) HL.out.2 HKb.out ?_
      | with_reducible refine upon_ins (HS.out.put _) HL.out.2 HKi.out ?_); intro w9 hs9; have HS := Lib.hid hs9; clear hs9; try (obtain ⟨_, _⟩ := St.bxc HS.out))
    all_goals
      go_wp2_with fail
      go_meet
      first
        | exact ⟨_, _, rfl, (HS.out.box rfl _).imp seen_start1⟩
        | exact ⟨_, _, rfl, (HS.out.box rfl _).imp seen_start2⟩
        | exact ⟨_, _, rfl, (HS.out.put _).imp seen_start1⟩
        | exact ⟨_, _, rfl, (HS.out.put _).imp seen_start2⟩
        | exact ⟨_, _, rfl, HS.out.imp seen_start1⟩
        | exact ⟨_, _, rfl, HS.out.imp seen_start2⟩
  case rest =>
    obtain ⟨bx, bm, rfl, hS⟩ := hcut
    have HS2 := Lib.hid hS
    clear hS hmm HKb HKi HS HL
    have q0 := HS2.out.g0
    have q1 := HS2.out.g1
    have q2 := HS2.out.g2
    go_upto_region 3 with fail
    go_cut [5] from 17 to 32 (fun v W => v = .bool (decide (n1 ≤ 4) && decide (n2 ≤ 12) && decide (n3 ≤ 12)) ∧ wc = W)
    case first =>
      by_cases h1 : (n1 : Int) ≤ 4
      · have h1' := decide_eq_true h1
        have H1 := Lib.hid (decide_eq_true (show n1 ≤ 4 by omega))
        by_cases h2 : (n2 : Int) ≤ 12
        · have h2' := decide_eq_true h2
          have H2 := Lib.hid (decide_eq_true (show n2 ≤ 12 by omega))
          by_cases h3 : (n3 : Int) ≤ 12
          · have h3' := decide_eq_true h3
            have H3 := Lib.hid (decide_eq_true (show n3 ≤ 12 by omega))
            go_wp2_with fail
            go_meet
            exact ⟨by rw [H1.out, H2.out, H3.out]; rfl, rfl⟩
          · have h3' := decide_eq_false h3
            have H3 := Lib.hid (decide_eq_false (show ¬ n3 ≤ 12 by omega))
            go_wp2_with fail
            go_meet
            exact ⟨by rw [H1.out, H2.out, H3.out]; rfl, rfl⟩
        · have h2' := decide_eq_false h2
          have H2 := Lib.hid (decide_eq_false (show ¬ n2 ≤ 12 by omega))
          go_wp2_with fail
          go_meet
          exact ⟨by rw [H1.out, H2.out]; rfl, rfl⟩
      · have h1' := decide_eq_false h1
        have H1 := Lib.hid (decide_eq_false (show ¬ n1 ≤ 4 by omega))
        go_wp2_with fail
        go_meet
        exact ⟨by rw [H1.out]; rfl, rfl⟩
    case rest =>
      obtain ⟨rfl, rfl⟩ := hcut
      have HE1 := HE
      clear HE
      generalize (decide (n1 ≤ 4) && decide (n2 ≤ 12) && decide (n3 ≤ 12)) = b0 at *
      go_wp2_with fail
      clear q0 q1 q2
      go_loopw [5, 36] (fun ok i wr => ∃ (k : Nat) (b5 : Bool), k ≤ n1 ∧ i = .int .i64 k ∧ ok = .bool b5 ∧ b5 = (b0 && allTo (sortOk g.sorts) k) ∧ St w (.slice A1 n1 c1) (.slice A2 n2 c2) (.slice A3 n3 c3) wr (some bm) (some (bx, .map (some bm))) (2 + k) (SeenIn (allSorts (g.sorts.take k)) [])) (fun _ i _ => n1 - (intOf i).toNat)
      case atStart => exact ⟨0, b0, by omega, rfl, rfl, by simp [allTo_zero], HS2.out⟩
      case round =>
        obtain ⟨k, b5, hk, rfl, rfl, hb5, hS⟩ := hrel
        have HB := Lib.hid hb5
        have HS := Lib.hid hS
        clear hb5 hS HS2
        by_cases hlt : k < n1
        · have hlt2 : (k : Int) < (n1 : Int) := by omega
          obtain ⟨s, hs⟩ : ∃ s, g.sorts[k]? = some s := ⟨_, List.getElem?_eq_getElem (show k < g.sorts.length by omega)⟩
          obtain ⟨b, o, vs, rfl, hbl, _, hcell, hr⟩ := (HW.out.sorts.on StrR.lasts HS.out.keep).at' hs
          obtain ⟨rfl, hsz⟩ := hr
          have c0 := hcell 0 _ rfl
          rw [Nat.mul_one, Nat.add_zero] at c0
          have HN := Lib.hid (allTo_succ (sortOk g.sorts) k)
          have HQ := Lib.hid (show sortOk g.sorts k = (usableB (Lx.bs s) && !hasB (allSorts (g.sorts.take k)) s) by unfold sortOk; rw [hs])
          have HM := Lib.hid (seen_more_sort (a := allSorts (g.sorts.take k)) (a' := allSorts (g.sorts.take (k + 1))) (b := []) (s := s) (by intro x; simp only [allSorts, List.mem_cons, mem_take_succ hs x]; constructor <;> (rintro (h | h | h | h) <;> simp [h])))
          have HC := Lib.hid (fresh_any s hsz true wr bx bm (2 + k) _ HS.out.bxc.1 (lt_of_block (HS.out.bx _ _ rfl).1) (HS.out.mp _ rfl).1 (by unfold maxLen; omega))
          clear hcell hs
          go_wp2_with fail
          refine HC.out.mono ?_
          rintro e w3 hp
          obtain ⟨c, hcS, rfl, hS3⟩ := HS.out.fresh hp
          have HS3 := Lib.hid (hS3.imp HM.out)
          have HQ2 := Lib.hid (show sortOk g.sorts k = (usableB (Lx.bs s) && !c && (true || !coreB (Lx.bs s))) by
            rw [HQ.out]
            have : c = hasB (allSorts (g.sorts.take k)) s := by rw [Bool.eq_iff_iff, hcS, seen_sort]
            rw [this]; simp)
          clear hp hcS hS3 HC HM HQ HS
          generalize (usableB (Lx.bs s) && !c && (true || !coreB (Lx.bs s))) = q at *
          cases q with
          | true =>
            have HN2 := Lib.hid (show b5 = (b0 && allTo (sortOk g.sorts) (k + 1)) by rw [HN.out, HQ2.out, HB.out]; simp)
            go_wp2_with fail
            go_roundw
            case rel => exact ⟨k + 1, b5, by omega, by go_num, rfl, HN2.out, HS3.out⟩
            case measure => simp [intOf]; omega
          | false =>
            have HN2 := Lib.hid (show false = (b0 && allTo (sortOk g.sorts) (k + 1)) by rw [HN.out, HQ2.out]; simp)
            go_wp2_with fail
            go_roundw
            case rel => exact ⟨k + 1, false, by omega, by go_num, rfl, HN2.out, HS3.out⟩
            case measure => simp [intOf]; omega
        · obtain rfl : n1 = k := by omega
          have hts : g.sorts.take n1 = g.sorts := List.take_of_length_le (by omega)
          rw [hts] at HS
          have q0 := HS.out.g0
          have q1 := HS.out.g1
          have q2 := HS.out.g2
          go_wp2_with fail
          clear q0 q1 q2 hk hlt
          have HS2 := HS
          have HB2 := HB
          clear HS HB
          go_loopw [5, 50] (fun ok i wr => ∃ (k : Nat) (b6 : Bool), k ≤ n2 ∧ i = .int .i64 k ∧ ok = .bool b6 ∧ b6 = (b5 && allTo (funOk g) k) ∧ St w (.slice A1 n1 c1) (.slice A2 n2 c2) (.slice A3 n3 c3) wr (some bm) (some (bx, .map (some bm))) (2 + n1 + k) (SeenIn (allSorts g.sorts) ((g.funs.map Fun4.name).take k))) (fun _ i _ => n2 - (intOf i).toNat)
          case atStart => exact ⟨0, b5, by omega, rfl, rfl, by simp [allTo_zero], HS2.out⟩
          case round =>
            obtain ⟨k, b6, hk, rfl, rfl, hb6, hS⟩ := hrel
            have HB := Lib.hid hb6
            have HS := Lib.hid hS
            clear hb6 hS HS2
            by_cases hlt : k < n2
            · have hlt2 : (k : Int) < (n2 : Int) := by omega
              obtain ⟨f, hf⟩ : ∃ f, g.funs[k]? = some f := ⟨_, List.getElem?_eq_getElem (show k < g.funs.length by omega)⟩
              obtain ⟨b, o, vs, rfl, hbl, _, hcell, hr⟩ := (HW.out.funs.on FunR.lasts HS.out.keep).at' hf
              obtain ⟨rfl, hsz, hi⟩ := hr
              obtain ⟨d0, d1, d2, d3, d4, d5⟩ := cells6 hbl hcell (Below.refl _ _)
              have HN := Lib.hid (allTo_succ (funOk g) k)
              have hnm := map_at (nm := Fun4.name) hf
              have HQ := Lib.hid (show funOk g k = (usableB (Lx.bs f.name) && !(hasB ((g.funs.map Fun4.name).take k) f.name || coreB (Lx.bs f.name)) && funB n1 f) by unfold funOk; rw [hf, hn1])
              have HM := Lib.hid (seen_more_name (a := allSorts g.sorts) (b := (g.funs.map Fun4.name).take k) (b' := (g.funs.map Fun4.name).take (k + 1)) (s := f.name) (mem_take_succ hnm))
              have HG := Lib.hid (fun W => fun_any A1 (some ⟨b, o, none⟩) A3 n1 c1 n2 c2 n3 c3 f W (by omega))
              have HS6 := Lib.hid (HS.out.below ((Below.refl wr.heap.size wr).alloc (Nat.le_refl _) (.cells #[.string f.name, .int .i64 f.len, .int .i64 f.a0, .int .i64 f.a1, .int .i64 f.a2, .int .i64 f.res] 68)))
              have HBC := Lib.hid (box6_cells wr (.string f.name) (.int .i64 f.len) (.int .i64 f.a0) (.int .i64 f.a1) (.int .i64 f.a2) (.int .i64 f.res) 68)
              have HZ := Lib.hid (show wr.heap.size < (wr.alloc (.cells #[.string f.name, .int .i64 f.len, .int .i64 f.a0, .int .i64 f.a1, .int .i64 f.a2, .int .i64 f.res] 68)).heap.size ∧ ¬ wr.heap.size = bm by have := (HS.out.mp _ rfl).1.lt; simp; omega)
              have HC := Lib.hid (fresh_any f.name hsz false _ bx bm (2 + n1 + k) _ HS6.out.bxc.1 (lt_of_block (HS6.out.bx _ _ rfl).1) (HS6.out.mp _ rfl).1 (by unfold maxLen; omega))
              clear hcell hf hnm HS
              go_wp2_with fail
              generalize wr.alloc (.cells #[.string f.name, .int .i64 f.len, .int .i64 f.a0, .int .i64 f.a1, .int .i64 f.a2, .int .i64 f.res] 68) = w6 at *
              clear d0 d1 d2 d3 d4 d5
              refine HC.out.mono ?_
              rintro e w3 hp
              have HB3 := Lib.hid (HBC.out.keeps hp.keep HZ.out.1 HZ.out.2)
              obtain ⟨c, hcS, rfl, hS3⟩ := HS6.out.fresh hp
              have HS3 := Lib.hid (hS3.imp HM.out)
              have HQ2 := Lib.hid (show funOk g k = ((usableB (Lx.bs f.name) && !c && (false || !coreB (Lx.bs f.name))) && funB n1 f) by
                rw [HQ.out]
                have : c = hasB ((g.funs.map Fun4.name).take k) f.name := by rw [Bool.eq_iff_iff, hcS, seen_name]
                rw [this]
                generalize usableB (Lx.bs f.name) = x1
                generalize coreB (Lx.bs f.name) = x2
                generalize hasB ((g.funs.map Fun4.name).take k) f.name = x3
                generalize funB n1 f = x4
                cases x1 <;> cases x2 <;> cases x3 <;> cases x4 <;> rfl)
              clear hp hcS hS3 HC HM HQ HS6 HBC
              generalize (usableB (Lx.bs f.name) && !c && (false || !coreB (Lx.bs f.name))) = q at *
              cases q with
              | false =>
                have HN2 := Lib.hid (show false = (b5 && allTo (funOk g) (k + 1)) by rw [HN.out, HQ2.out]; simp)
                go_wp2_with fail
                go_roundw
                case rel => exact ⟨k + 1, false, by omega, by go_num, rfl, HN2.out, HS3.out⟩
                case measure => simp [intOf]; omega
              | true =>
                obtain ⟨e0, e1, e2, e3, e4, e5, hz3⟩ := HB3.out
                have p0 := HS3.out.g0
                have p1 := HS3.out.g1
                have p2 := HS3.out.g2
                have hcall := HG.out w3
                go_wp2_with fail
                generalize hfb : funB n1 f = fb at hcall HQ2
                clear hfb
                refine hcall.mono ?_
                rintro e w4 ⟨rfl, hb⟩
                have HS4 := Lib.hid (HS3.out.below hb)
                clear hb e0 e1 e2 e3 e4 e5 p0 p1 p2 hcall HB3 HS3
                cases fb with
                | false =>
                  have HN2 := Lib.hid (show false = (b5 && allTo (funOk g) (k + 1)) by rw [HN.out, HQ2.out]; simp)
                  go_wp2_with fail
                  go_roundw
                  case rel => exact ⟨k + 1, false, by omega, by go_num, rfl, HN2.out, HS4.out⟩
                  case measure => simp [intOf]; omega
                | true =>
                  have HN2 := Lib.hid (show b6 = (b5 && allTo (funOk g) (k + 1)) by rw [HN.out, HQ2.out, HB.out]; simp)
                  go_wp2_with fail
                  go_roundw
                  case rel => exact ⟨k + 1, b6, by omega, by go_num, rfl, HN2.out, HS4.out⟩
                  case measure => simp [intOf]; omega
            · obtain rfl : n2 = k := by omega
              have hts2 : (g.funs.map Fun4.name).take n2 = g.funs.map Fun4.name := List.take_of_length_le (by simp; omega)
              rw [hts2] at HS
              have q0 := HS.out.g0
              have q1 := HS.out.g1
              have q2 := HS.out.g2
              go_wp2_with fail
              clear q0 q1 q2 hk hlt hts hts2
              have HS2 := HS
              have HB3 := HB
              clear HS HB
              go_loopw [5, 70] (fun ok i wr => ∃ (k : Nat) (b7 : Bool), k ≤ n3 ∧ i = .int .i64 k ∧ ok = .bool b7 ∧ b7 = (b6 && allTo (macOk g) k) ∧ St w (.slice A1 n1 c1) (.slice A2 n2 c2) (.slice A3 n3 c3) wr (some bm) (some (bx, .map (some bm))) (2 + n1 + n2 + k) (SeenIn (allSorts g.sorts) (g.funs.map Fun4.name ++ (g.macros.map Macro.name).take k))) (fun _ i _ => n3 - (intOf i).toNat)
              case atStart => exact ⟨0, b6, by omega, rfl, rfl, by simp [allTo_zero], by simpa using HS2.out⟩
              case round =>
                obtain ⟨k, b7, hk, rfl, rfl, hb7, hS⟩ := hrel
                have HB := Lib.hid hb7
                have HS := Lib.hid hS
                clear hb7 hS HS2
                by_cases hlt : k < n3
                · have hlt2 : (k : Int) < (n3 : Int) := by omega
                  obtain ⟨m, hm⟩ : ∃ m, g.macros[k]? = some m := ⟨_, List.getElem?_eq_getElem (show k < g.macros.length by omega)⟩
                  obtain ⟨b, o, vs, rfl, hbl, _, hcell, hr⟩ := HW.out.macros.at' hm
                  obtain ⟨Ap, cp, bv, rfl, hsx, hps, hpc, hcm, hsz, hres⟩ := hr
                  obtain ⟨Ab, cb', rfl, _⟩ := hsx.open'
                  have HSx := Lib.hid hsx
                  have HPs := Lib.hid hps
                  have HPm := Lib.hid (show m.params.length ≤ maxLen by omega)
                  obtain ⟨d0, d1, d2, d3, d4, d5⟩ := cells6 hbl hcell HS.out.keep
                  have HN := Lib.hid (allTo_succ (macOk g) k)
                  have hnm := map_at (nm := Macro.name) hm
                  have HQ := Lib.hid (show macOk g k = (usableB (Lx.bs m.name) && !(hasB (g.funs.map Fun4.name) m.name || hasB ((g.macros.map Macro.name).take k) m.name || coreB (Lx.bs m.name)) && macroB n1 m) by unfold macOk; rw [hm, hn1])
                  have HM := Lib.hid (seen_more_name (a := allSorts g.sorts) (b := g.funs.map Fun4.name ++ (g.macros.map Macro.name).take k) (b' := g.funs.map Fun4.name ++ (g.macros.map Macro.name).take (k + 1)) (s := m.name) (by intro x; rw [List.mem_append, List.mem_append, mem_take_succ hnm x]; constructor <;> (rintro (h | h | h) <;> simp [h])))
                  have HS6 := Lib.hid (HS.out.below ((Below.refl wr.heap.size wr).alloc (Nat.le_refl _) (.cells #[.string m.name, .slice Ap m.params.length cp, .int .i64 m.res, .int .i8 m.body.kind, .string m.body.text, .slice Ab m.body.l.length cb'] 56)))
                  have HBC := Lib.hid (box6_cells wr (.string m.name) (.slice Ap m.params.length cp) (.int .i64 m.res) (.int .i8 m.body.kind) (.string m.body.text) (.slice Ab m.body.l.length cb') 56)
                  have HZ := Lib.hid (show wr.heap.size < (wr.alloc (.cells #[.string m.name, .slice Ap m.params.length cp, .int .i64 m.res, .int .i8 m.body.kind, .string m.body.text, .slice Ab m.body.l.length cb'] 56)).heap.size ∧ ¬ wr.heap.size = bm by have := (HS.out.mp _ rfl).1.lt; simp; omega)
                  have HC := Lib.hid (fresh_any m.name hsz false _ bx bm (2 + n1 + n2 + k) _ HS6.out.bxc.1 (lt_of_block (HS6.out.bx _ _ rfl).1) (HS6.out.mp _ rfl).1 (by unfold maxLen; omega))
                  have HG := Lib.hid (fun W hp hx => macro_any (w := W) (A1 := A1) (A2 := A2) (A3 := some ⟨b, o, none⟩) (n1 := n1) (c1 := c1) (n2 := n2) (c2 := c2) (n3 := n3) (c3 := c3) (Ap := Ap) (Ab := Ab) (cp := cp) (cb := cb') (by omega) m hp HPm.out hx)
                  generalize m.params.length = np at *
                  generalize m.body.l.length = nb at *
                  clear hcell hm hnm HS hps hsx hpc hcm
                  go_wp2_with fail
                  generalize wr.alloc (.cells #[.string m.name, .slice Ap np cp, .int .i64 m.res, .int .i8 m.body.kind, .string m.body.text, .slice Ab nb cb'] 56) = w6 at *
                  clear d0 d1 d2 d3 d4 d5
                  refine HC.out.mono ?_
                  rintro e w3 hp
                  have HB3 := Lib.hid (HBC.out.keeps hp.keep HZ.out.1 HZ.out.2)
                  obtain ⟨c, hcS, rfl, hS3⟩ := HS6.out.fresh hp
                  have HS3 := Lib.hid (hS3.imp HM.out)
                  have HQ2 := Lib.hid (show macOk g k = ((usableB (Lx.bs m.name) && !c && (false || !coreB (Lx.bs m.name))) && macroB n1 m) by
                    rw [HQ.out]
                    have : c = (hasB (g.funs.map Fun4.name) m.name || hasB ((g.macros.map Macro.name).take k) m.name) := by
                      rw [Bool.eq_iff_iff, hcS, seen_name, Bool.or_eq_true, hasB_iff, hasB_iff, hasB_iff, List.mem_append]
                    rw [this]
                    generalize usableB (Lx.bs m.name) = x1
                    generalize coreB (Lx.bs m.name) = x2
                    generalize hasB ((g.macros.map Macro.name).take k) m.name = x3
                    generalize hasB (g.funs.map Fun4.name) m.name = x5
                    generalize macroB n1 m = x4
                    cases x1 <;> cases x2 <;> cases x3 <;> cases x4 <;> cases x5 <;> rfl)
                  clear hp hcS hS3 HC HM HQ HS6 HBC
                  generalize (usableB (Lx.bs m.name) && !c && (false || !coreB (Lx.bs m.name))) = q at *
                  cases q with
                  | false =>
                    have HN2 := Lib.hid (show false = (b6 && allTo (macOk g) (k + 1)) by rw [HN.out, HQ2.out]; simp)
                    go_wp2_with fail
                    go_roundw
                    case rel => exact ⟨k + 1, false, by omega, by go_num, rfl, HN2.out, HS3.out⟩
                    case measure => simp [intOf]; omega
                  | true =>
                    obtain ⟨e0, e1, e2, e3, e4, e5, hz3⟩ := HB3.out
                    have p0 := HS3.out.g0
                    have p1 := HS3.out.g1
                    have p2 := HS3.out.g2
                    have hcall := HG.out w3 (HPs.out.on ParamR.lasts HS3.out.keep) (SexpR.lasts _ _ _ _ HS3.out.keep HSx.out)
                    go_wp2_with fail
                    generalize hfb : macroB n1 m = fb at hcall HQ2
                    clear hfb
                    refine hcall.mono ?_
                    rintro e w4 ⟨rfl, hb⟩
                    have HS4 := Lib.hid (HS3.out.below hb)
                    clear hb e0 e1 e2 e3 e4 e5 p0 p1 p2 hcall HB3 HS3
                    cases fb with
                    | false =>
                      have HN2 := Lib.hid (show false = (b6 && allTo (macOk g) (k + 1)) by rw [HN.out, HQ2.out]; simp)
                      go_wp2_with fail
                      go_roundw
                      case rel => exact ⟨k + 1, false, by omega, by go_num, rfl, HN2.out, HS4.out⟩
                      case measure => simp [intOf]; omega
                    | true =>
                      have HN2 := Lib.hid (show b7 = (b6 && allTo (macOk g) (k + 1)) by rw [HN.out, HQ2.out, HB.out]; simp)
                      go_wp2_with fail
                      go_roundw
                      case rel => exact ⟨k + 1, b7, by omega, by go_num, rfl, HN2.out, HS4.out⟩
                      case measure => simp [intOf]; omega
                · obtain rfl : n3 = k := by omega
                  have HF2 := Lib.hid HS.out.keep
                  have HR := Lib.hid (show cb = b7 by rw [HE1.out, HB.out, HB3.out, HB2.out]; simp only [Bool.and_assoc])
                  clear HS HB HB3 HB2
                  cases b7 with
                  | true =>
                    replace HR := Lib.hid (HT.out HR.out)
                    go_wp2_with fail
                    go_ret
                    exact ⟨ret_int HR.out.symm, HF2.out⟩
                  | false =>
                    replace HR := Lib.hid (HF.out HR.out)
                    go_wp2_with fail
                    go_ret
                    exact ⟨ret_int HR.out.symm, HF2.out⟩
end Go.Proofs.YtfcmpfaonpnbaaaDoor.Sg
/- The walks of layer 1's functions: what each call answers, and that what was there is as it was. -/
namespace Go.Proofs.YtfcmpfaonpnbaaaDoor
open Go.RowKit

set_option maxHeartbeats 400000 in
theorem may_any (n : Int) (h : I64 n) (w : World) :
    Calls Tryd.prog 49 #[.int .i64 n] w fun e w' => e = .returned (.bool (mayB n)) ∧ w = w' := by
  have h1 := h.lo
  have h2 := h.hi
  clear h
  go_enter Tryd.func49, Tryd.ntmps49
  go_wp2
  all_goals go_ret
  all_goals refine ⟨ret_bool ?_, rfl⟩
  · symm; rw [mayB_iff]; omega
  · symm; rw [mayB_iff]; omega
  · rw [Bool.eq_iff_iff, mayB_iff]; simp; omega

end Go.Proofs.YtfcmpfaonpnbaaaDoor
/- What layer 9's functions answer, in plain words: no condition. -/
namespace Go.Proofs.YtfcmpfaonpnbaaaDoor.Vl
open Go.RowKit Go.Proofs.YtfcmpfaonpnbaaaDoor.Dt Go.Proofs.YtfcmpfaonpnbaaaDoor.Sg

/-- is v one of a sort's values? -/
def valB (sz : List Int) (s v : Int) : Bool := if s = 0 then decide (v = 0 ∨ v = 1) else if s = 1 then mayB v else decide (0 ≤ v ∧ v < sz.getD (s - 2).toNat 0)
def isB (n : Nat) (sz : List Int) (s v : Int) : Bool := decide (sz.length = n) && (decide (0 ≤ s ∧ s < 2 + (n : Int)) && valB sz s v)
def Row.args (r : Row) : Int × Int × Int := (r.a0, r.a1, r.a2)
def at3 (a : Int × Int × Int) (i : Nat) : Int := if i = 0 then a.1 else if i = 1 then a.2.1 else a.2.2
def fitB (n : Nat) (sz : List Int) (len : Int) (i : Nat) (s a : Int) : Bool := if (i : Int) < len then isB n sz s a else a == 0
def fitsTo (n : Nat) (sz : List Int) (f : Fun4) (a : Int × Int × Int) (k : Nat) : Bool := allTo (fun i => fitB n sz f.len i (argOf f i) (at3 a i)) k
def fitsB (n : Nat) (sz : List Int) (f : Fun4) (a : Int × Int × Int) : Bool := fitsTo n sz f a 3
def onceB (l : List Row) : Bool := decide ((l.map Row.args).Nodup)
def rowOk (n : Nat) (sz : List Int) (f : Fun4) (r : Row) : Bool := fitsB n sz f (Row.args r) && isB n sz f.res r.val
def funOkW (n : Nat) (sz : List Int) (f : Fun4) (v : FunVal) : Bool := onceB v.rows && decide (v.rows.length ≤ 400) && isB n sz f.res v.els && v.rows.all (rowOk n sz f)
def funAt (g : Sig) (x : Wrld) (i : Nat) : Bool := match g.funs[i]?, x.funs[i]? with
  | some f, some v => funOkW g.sorts.length x.sizes f v
  | _, _ => true
def sizesOk (l : List Int) : Bool := l.all fun n => decide (1 ≤ n ∧ n ≤ 1000)
def mayW (g : Sig) (x : Wrld) : Bool := checkB g && decide (x.sizes.length = g.sorts.length) && decide (x.funs.length = g.funs.length) && sizesOk x.sizes && allTo (funAt g x) x.funs.length
def padA (l : List Int) : Int × Int × Int := (l.getD 0 0, l.getD 1 0, l.getD 2 0)
def noFun : Fun4 := ⟨{ data := #[] }, 0, 0, 0, 0, 0⟩
def noVal : FunVal := ⟨[], 0⟩
/-- why arguments may not be asked; 0: they may -/
def askE (g : Sig) (x : Wrld) (f : Int) (l : List Int) : Int :=
  if !mayW g x || decide (f < 0 ∨ (g.funs.length : Int) ≤ f) || decide ((l.length : Int) ≠ (g.funs.getD f.toNat noFun).len) then 2
  else if fitsB g.sorts.length x.sizes (g.funs.getD f.toNat noFun) (padA l) then 0 else 33
def rowAt (l : List Row) (a : Int × Int × Int) : Option Row := l.find? fun r => decide (Row.args r = a)
def lookV (v : FunVal) (a : Int × Int × Int) : Int := match rowAt v.rows a with
  | some r => r.val
  | none => v.els
def applyV (g : Sig) (x : Wrld) (f : Int) (l : List Int) : Int := if askE g x f l = 0 then lookV (x.funs.getD f.toNat noVal) (padA l) else 0
def hasA (l : List Row) (a : Int × Int × Int) : Bool := l.any fun r => decide (Row.args r = a)
def setV (a : Int × Int × Int) (v : Int) (r : Row) : Row := if Row.args r = a then { r with val := v } else r
def putRow (l : List Row) (a : Int × Int × Int) (v : Int) : List Row := if hasA l a then l.map (setV a v) else l ++ [⟨a.1, a.2.1, a.2.2, v⟩]
def withE (g : Sig) (x : Wrld) (f : Int) (l : List Int) (v : Int) : Int :=
  if askE g x f l ≠ 0 then askE g x f l
  else if !isB g.sorts.length x.sizes (g.funs.getD f.toNat noFun).res v then 33
  else if 400 < (putRow (x.funs.getD f.toNat noVal).rows (padA l) v).length then 2 else 0
def withX (x : Wrld) (f : Int) (l : List Int) (v : Int) : Wrld :=
  { x with funs := x.funs.set f.toNat { (x.funs.getD f.toNat noVal) with rows := putRow (x.funs.getD f.toNat noVal).rows (padA l) v } }
def withW (g : Sig) (x : Wrld) (f : Int) (l : List Int) (v : Int) : Wrld := if withE g x f l v = 0 then withX x f l v else ⟨[], []⟩
def plainW (g : Sig) : Wrld := ⟨List.replicate g.sorts.length 1, List.replicate g.funs.length noVal⟩

theorem allTo_iff {p : Nat → Bool} {k : Nat} : allTo p k = true ↔ ∀ i, i < k → p i = true := by
  unfold allTo
  rw [List.all_eq_true]
  simp
section
variable {l : List Row} {a b : Int × Int × Int} {v : Int}
theorem hasA_iff : hasA l a = true ↔ ∃ r ∈ l, Row.args r = a := by simp [hasA]
theorem hasA_not : hasA l a = false ↔ ∀ r ∈ l, Row.args r ≠ a := by rw [Bool.eq_false_iff, Ne, hasA_iff]; simp
theorem args_setV (r : Row) : Row.args (setV a v r) = Row.args r := by unfold setV; split <;> rfl
theorem args_put : (putRow l a v).map Row.args = if hasA l a then l.map Row.args else l.map Row.args ++ [a] := by
  unfold putRow
  by_cases h : hasA l a = true
  · rw [if_pos h, if_pos h, List.map_map]
    congr 1
    funext r
    exact args_setV r
  · rw [if_neg h, if_neg h, List.map_append]; rfl
theorem once_put (h : onceB l = true) : onceB (putRow l a v) = true := by
  unfold onceB at *
  rw [decide_eq_true_iff] at *
  rw [args_put]
  by_cases hh : hasA l a = true
  · rw [if_pos hh]; exact h
  · rw [if_neg hh]
    have hn := hasA_not.1 (Bool.eq_false_iff.2 hh)
    rw [List.nodup_append]
    refine ⟨h, by simp, ?_⟩
    intro x hx y hy
    rw [List.mem_singleton] at hy
    subst hy
    obtain ⟨r, hr, rfl⟩ := List.mem_map.1 hx
    exact hn r hr
theorem mem_put {r : Row} (h : r ∈ putRow l a v) : r ∈ l ∨ (Row.args r = a ∧ r.val = v) := by
  unfold putRow at h
  split at h
  · obtain ⟨q, hq, rfl⟩ := List.mem_map.1 h
    unfold setV
    split
    · rename_i e; exact .inr ⟨e, rfl⟩
    · exact .inl hq
  · rcases List.mem_append.1 h with h1 | h1
    · exact .inl h1
    · rw [List.mem_singleton] at h1; subst h1; exact .inr ⟨rfl, rfl⟩
theorem find_setV (hh : hasA l a = true) : ∃ r, rowAt (l.map (setV a v)) a = some r ∧ r.val = v := by
  obtain ⟨r, hr, he⟩ := hasA_iff.1 hh
  unfold rowAt
  cases hf : (l.map (setV a v)).find? (fun r => decide (Row.args r = a)) with
  | none =>
    exfalso
    rw [List.find?_eq_none] at hf
    have := hf (setV a v r) (List.mem_map.2 ⟨r, hr, rfl⟩)
    rw [args_setV, he] at this
    simp at this
  | some q =>
    refine ⟨q, rfl, ?_⟩
    have h1 := List.find?_some hf
    have h2 := List.mem_of_find?_eq_some hf
    obtain ⟨p, hp, rfl⟩ := List.mem_map.1 h2
    rw [decide_eq_true_iff, args_setV] at h1
    unfold setV
    rw [if_pos h1]
theorem rowAt_put : ∃ r, rowAt (putRow l a v) a = some r ∧ r.val = v := by
  unfold putRow
  by_cases hh : hasA l a = true
  · rw [if_pos hh]; exact find_setV hh
  · rw [if_neg hh]
    have hn := hasA_not.1 (Bool.eq_false_iff.2 hh)
    refine ⟨⟨a.1, a.2.1, a.2.2, v⟩, ?_, rfl⟩
    unfold rowAt
    rw [List.find?_append, List.find?_eq_none.2 (fun r hr => by simpa using hn r hr)]
    simp [Row.args]
theorem find_other (hb : b ≠ a) : ∀ l : List Row, (rowAt (l.map (setV a v)) b).map Row.val = (rowAt l b).map Row.val
  | [] => rfl
  | r :: l => by
    have ih := find_other hb l
    unfold rowAt at *
    rw [List.map_cons, List.find?_cons, List.find?_cons, args_setV]
    by_cases h : Row.args r = b
    · rw [decide_eq_true h]
      have : setV a v r = r := by unfold setV; rw [if_neg (by rw [h]; exact hb)]
      rw [this]
    · rw [decide_eq_false h]; exact ih
theorem rowAt_put_other (hb : b ≠ a) : (rowAt (putRow l a v) b).map Row.val = (rowAt l b).map Row.val := by
  unfold putRow
  by_cases hh : hasA l a = true
  · rw [if_pos hh]; exact find_other hb l
  · rw [if_neg hh]
    unfold rowAt
    rw [List.find?_append]
    cases l.find? (fun r => decide (Row.args r = b)) with
    | some r => rfl
    | none =>
      have : ¬ Row.args ⟨a.1, a.2.1, a.2.2, v⟩ = b := fun e => hb e.symm
      simp [this]
end
theorem lookV_put {v : FunVal} {a : Int × Int × Int} {n : Int} : lookV { v with rows := putRow v.rows a n } a = n := by
  obtain ⟨r, h1, h2⟩ := rowAt_put (l := v.rows) (a := a) (v := n)
  unfold lookV
  simp only [h1]
  exact h2
theorem lookV_put_other {v : FunVal} {a b : Int × Int × Int} {n : Int} (hb : b ≠ a) : lookV { v with rows := putRow v.rows a n } b = lookV v b := by
  have h := rowAt_put_other (l := v.rows) (v := n) hb
  unfold lookV
  simp only []
  cases h1 : rowAt (putRow v.rows a n) b <;> cases h2 : rowAt v.rows b <;> simp_all
end Go.Proofs.YtfcmpfaonpnbaaaDoor.Vl
