import Derived.Test.YtfcmpfaonpnbaaaDoorMd
import Derived.Deep.RegionWith
import Derived.Test.YtfcmpfaonpnbaaaDoorMc
/- merged by wip/merge.py from: SigR SigMac SigCheckS -/
/- The document's sig: sorts' names, whether a function may be. -/
namespace Go.Proofs.YtfcmpfaonpnbaaaDoor.Sg
open Go.RowKit Go.Proofs.YtfcmpfaonpnbaaaDoor.Dt

def boolS : ByteArray := { data := #[66, 111, 111, 108] }
def intS : ByteArray := { data := #[73, 110, 116] }
/-- a sort's name -/
def sortNameS (l : List ByteArray) (s : Int) : ByteArray := if s = 0 then { data := #[66, 111, 111, 108] } else if s = 1 then { data := #[73, 110, 116] } else if 2 ≤ s ∧ s - 2 < l.length then l.getD (s - 2).toNat { data := #[] } else { data := #[] }
set_option maxRecDepth 100000 in
set_option maxHeartbeats 1600000 in
theorem rsortname_any {w : World} {A1 A2 A3 : Option Addr} {c1 n2 c2 n3 c3 : Nat} {l : List ByteArray} (h : Lies 1 StrR w A1 l) (_hc : l.length ≤ c1) (hcm : (l.length : Int) ≤ 140737488351232) (s : Int) (hs : I64 s) :
    Calls Tryd.prog 61 #[.agg #[.slice A1 l.length c1, .slice A2 n2 c2, .slice A3 n3 c3], .int .i64 s] w fun e w' => e = .returned (.tuple #[.string (sortNameS l s), .bool (thereB l.length s)]) ∧ Below w.heap.size w w' := by
  have HB := Lib.hid ((Below.refl w.heap.size w).alloc (Nat.le_refl _) (.cells #[.slice A1 l.length c1, .slice A2 n2 c2, .slice A3 n3 c3] 26))
  have HE := Lib.hid (show ∀ (a b : ByteArray) (x y : Bool), a = b → x = y → Ending.returned (.tuple #[.string a, .bool x]) = .returned (.tuple #[.string b, .bool y]) from fun a b x y h1 h2 => by rw [h1, h2])
  have HS := Lib.hid (show sortNameS l s = if s = 0 then { data := #[66, 111, 111, 108] } else if s = 1 then { data := #[73, 110, 116] } else if 2 ≤ s ∧ s - 2 < l.length then l.getD (s - 2).toNat { data := #[] } else { data := #[] } from rfl)
  have HT := Lib.hid (show thereB l.length s = decide (0 ≤ s ∧ s < 2 + (l.length : Int)) from rfl)
  have hs1 := hs.hi
  by_cases h0 : s = 0
  · subst h0
    go_enter Tryd.func61, Tryd.ntmps61
    go_wp2_with fail
    go_ret2
    exact ⟨HE.out _ _ _ _ (by rw [HS.out]; rfl) (by rw [HT.out]; simp; omega), HB.out⟩
  · have n0 : (s == 0) = false := beq_eq_false_iff_ne.2 h0
    by_cases h1 : s = 1
    · subst h1
      go_enter Tryd.func61, Tryd.ntmps61
      go_wp2_with fail
      go_ret2
      exact ⟨HE.out _ _ _ _ (by rw [HS.out]; rfl) (by rw [HT.out]; simp; omega), HB.out⟩
    · have n1 : (s == 1) = false := beq_eq_false_iff_ne.2 h1
      by_cases h2 : 2 ≤ s
      · have e2 : 0 ≤ s - 2 := by omega
        by_cases h3 : s - 2 < (l.length : Int)
        · obtain ⟨k, hk⟩ := Int.eq_ofNat_of_zero_le e2
          obtain ⟨x, hx⟩ : ∃ x, l[k]? = some x := ⟨_, List.getElem?_eq_getElem (show k < l.length by omega)⟩
          have hg : l.getD (s - 2).toNat { data := #[] } = x := by rw [hk]; simp [List.getD_eq_getElem?_getD, hx]
          replace HS := Lib.hid (show sortNameS l s = x by rw [HS.out, if_neg h0, if_neg h1, if_pos ⟨h2, h3⟩]; exact hg)
          obtain ⟨b, o, vs, rfl, hbl, _, hcell, hr⟩ := h.at' hx
          obtain ⟨rfl, _⟩ := hr
          have hc0 := hcell 0 _ rfl
          rw [Nat.mul_one, Nat.add_zero] at hc0
          have hkn : o + k = o + (s - 2).toNat := by omega
          rw [hkn] at hc0
          clear hcell hg hx hk hkn
          go_enter Tryd.func61, Tryd.ntmps61
          go_wp2_with fail
          go_ret2
          exact ⟨HE.out _ _ _ _ HS.out.symm (by rw [HT.out]; simp; omega), HB.out⟩
        · have h3' := decide_eq_false h3
          go_enter Tryd.func61, Tryd.ntmps61
          go_wp2_with fail
          go_ret2
          exact ⟨HE.out _ _ _ _ (by rw [HS.out, if_neg h0, if_neg h1, if_neg (by omega)]) (by rw [HT.out, eq_comm, decide_eq_false_iff_not]; omega), HB.out⟩
      · have h2' := decide_eq_false h2
        go_enter Tryd.func61, Tryd.ntmps61
        go_wp2_with fail
        go_ret2
        exact ⟨HE.out _ _ _ _ (by rw [HS.out, if_neg h0, if_neg h1, if_neg (by omega)]) (by rw [HT.out, eq_comm, decide_eq_false_iff_not]; omega), HB.out⟩
set_option maxRecDepth 100000 in
set_option maxHeartbeats 1600000 in
theorem rthere_any {w : World} {A1 A2 A3 : Option Addr} {c1 n2 c2 n3 c3 : Nat} {l : List ByteArray} (h : Lies 1 StrR w A1 l) (hc : l.length ≤ c1) (hcm : (l.length : Int) ≤ 140737488351232) (s : Int) (hs : I64 s) :
    Calls Tryd.prog 47 #[.agg #[.slice A1 l.length c1, .slice A2 n2 c2, .slice A3 n3 c3], .int .i64 s] w fun e w' => e = .returned (.bool (thereB l.length s)) ∧ Below w.heap.size w w' := by
  have HB := Lib.hid ((Below.refl w.heap.size w).alloc (Nat.le_refl _) (.cells #[.slice A1 l.length c1, .slice A2 n2 c2, .slice A3 n3 c3] 26))
  have HC := Lib.hid (rsortname_any (A2 := A2) (A3 := A3) (n2 := n2) (c2 := c2) (n3 := n3) (c3 := c3) (h.on StrR.lasts HB.out) hc hcm s hs)
  generalize sortNameS l s = nm at *
  generalize thereB l.length s = tb at *
  go_enter Tryd.func47, Tryd.ntmps47
  go_wp2_with fail
  refine HC.out.mono ?_
  rintro e w1 ⟨rfl, hb⟩
  have HB1 := Lib.hid (HB.out.trans (hb.mono HB.out.size))
  clear hb
  go_wp2_with fail
  go_ret
  exact ⟨rfl, HB1.out⟩

theorem five_cells {w w' : World} {b k : Nat} {u0 u1 u2 u3 u4 : Value} (hb : Below w.heap.size w w') (hlt : b + 1 < w.heap.size) (p0 : w.cell? ⟨b, 0, none⟩ = some u0) (p1 : w.cell? ⟨b, 1, none⟩ = some u1) (p2 : w.cell? ⟨b, 2, none⟩ = some u2) (p3 : w.cell? ⟨b + 1, 1, none⟩ = some u3) (p4 : w.cell? ⟨b + 1, 2 + k, none⟩ = some u4) :
    w'.cell? ⟨b, 0, none⟩ = some u0 ∧ w'.cell? ⟨b, 1, none⟩ = some u1 ∧ w'.cell? ⟨b, 2, none⟩ = some u2 ∧ w'.cell? ⟨b + 1, 1, none⟩ = some u3 ∧ w'.cell? ⟨b + 1, 2 + k, none⟩ = some u4 :=
  ⟨((bcell hb).1 b 0 (by omega)).trans p0, ((bcell hb).1 b 1 (by omega)).trans p1, ((bcell hb).1 b 2 (by omega)).trans p2, ((bcell hb).1 (b + 1) 1 hlt).trans p3, ((bcell hb).1 (b + 1) (2 + k) hlt).trans p4⟩
theorem argOf_i64 {f : Fun4} (h : I64 f.a0 ∧ I64 f.a1 ∧ I64 f.a2) (k : Nat) : I64 (argOf f k) := by
  unfold argOf
  split
  · exact h.1
  · split
    · exact h.2.1
    · exact h.2.2
set_option maxRecDepth 100000 in
set_option maxHeartbeats 3200000 in
theorem rfun_any {w : World} {A1 A2 A3 : Option Addr} {c1 n2 c2 n3 c3 : Nat} {l : List ByteArray} (h : Lies 1 StrR w A1 l) (hc : l.length ≤ c1) (hcm : (l.length : Int) ≤ 140737488351232) (f : Fun4) (hf : I64 f.res ∧ I64 f.a0 ∧ I64 f.a1 ∧ I64 f.a2) :
    Calls Tryd.prog 29 #[.agg #[.slice A1 l.length c1, .slice A2 n2 c2, .slice A3 n3 c3], .agg #[.string f.name, .int .i64 f.len, .int .i64 f.a0, .int .i64 f.a1, .int .i64 f.a2, .int .i64 f.res]] w fun e w' => e = .returned (.bool (funB l.length f)) ∧ Below w.heap.size w w' := by
  have HL := Lib.hid h
  have HF := Lib.hid (funB_eq l.length f)
  have HS := Lib.hid (okTo_succ l.length f)
  have HX := Lib.hid (fun k hk h => okTo_stop (n := l.length) (f := f) (k := k) hk h)
  have HTh := Lib.hid (fun s hs W (hW : Below w.heap.size w W) => rthere_any (A2 := A2) (A3 := A3) (n2 := n2) (c2 := c2) (n3 := n3) (c3 := c3) (HL.out.on StrR.lasts hW) hc hcm s hs)
  have HArg := Lib.hid (show ∀ k a, argB l.length f.len k a = if (k : Int) < f.len then thereB l.length a else a == 0 from fun _ _ => rfl)
  have HAI := Lib.hid (argOf_i64 hf.2)
  have HG := Lib.hid (show argOf f 0 = f.a0 ∧ argOf f 1 = f.a1 ∧ argOf f 2 = f.a2 from ⟨rfl, rfl, rfl⟩)
  have HRI := Lib.hid hf.1
  generalize funB l.length f = fb at *
  generalize hokk : okTo l.length f = ok at *
  have HZ := Lib.hid (show ok 0 = true by rw [← hokk]; rfl)
  clear hokk h hf
  generalize hagg : argOf f = ag at *
  clear hagg
  generalize f.len = len at *
  generalize f.res = res at *
  generalize f.name = name at *
  generalize f.a0 = a0 at *
  generalize f.a1 = a1 at *
  generalize f.a2 = a2 at *
  by_cases h0 : len < 0
  · go_enter Tryd.func29, Tryd.ntmps29
    go_wp2_with fail
    go_ret
    exact ⟨ret_bool (by rw [HF.out, decide_eq_false (show ¬ (0 ≤ len ∧ len ≤ 3) by omega)]; rfl), ((Below.refl _ _).alloc (Nat.le_refl _) _).alloc (by simp) _⟩
  · have h0' := decide_eq_false h0
    by_cases h1 : 3 < len
    · go_enter Tryd.func29, Tryd.ntmps29
      go_wp2_with fail
      go_ret
      exact ⟨ret_bool (by rw [HF.out, decide_eq_false (show ¬ (0 ≤ len ∧ len ≤ 3) by omega)]; rfl), ((Below.refl _ _).alloc (Nat.le_refl _) _).alloc (by simp) _⟩
    · have h1' := decide_eq_false h1
      replace HF := Lib.hid (show fb = (thereB l.length res && ok 3) by rw [HF.out, decide_eq_true (show 0 ≤ len ∧ len ≤ 3 by omega)]; rfl)
      generalize l.length = n1 at *
      obtain ⟨g0, g1, g2⟩ := sig_cells w (.slice A1 n1 c1) (.slice A2 n2 c2) (.slice A3 n3 c3) 26
      have hz1 : (w.alloc (.cells #[.slice A1 n1 c1, .slice A2 n2 c2, .slice A3 n3 c3] 26)).heap.size = w.heap.size + 1 := by simp
      have B1 := Lib.hid ((Below.refl w.heap.size w).alloc (Nat.le_refl _) (.cells #[.slice A1 n1 c1, .slice A2 n2 c2, .slice A3 n3 c3] 26))
      go_enter Tryd.func29, Tryd.ntmps29
      go_wp2_with fail
      generalize w.alloc (.cells #[.slice A1 n1 c1, .slice A2 n2 c2, .slice A3 n3 c3] 26) = w1 at *
      have B2 := Lib.hid ((Below.refl w1.heap.size w1).alloc (Nat.le_refl _) (.cells #[.string name, .int .i64 len, .int .i64 a0, .int .i64 a1, .int .i64 a2, .int .i64 res] 68))
      have f1 : (w1.alloc (.cells #[.string name, .int .i64 len, .int .i64 a0, .int .i64 a1, .int .i64 a2, .int .i64 res] 68)).cell? ⟨w1.heap.size, 1, none⟩ = some (.int .i64 len) := by rw [World.cell?_alloc_mark]; rfl
      have f2 : ∀ k, k < 3 → (w1.alloc (.cells #[.string name, .int .i64 len, .int .i64 a0, .int .i64 a1, .int .i64 a2, .int .i64 res] 68)).cell? ⟨w1.heap.size, 2 + k, none⟩ = some (.int .i64 (ag k)) := fun k hk => by
        rw [World.cell?_alloc_mark]
        have : k = 0 ∨ k = 1 ∨ k = 2 := by omega
        rcases this with rfl | rfl | rfl
        · rw [HG.out.1]; rfl
        · rw [HG.out.2.1]; rfl
        · rw [HG.out.2.2]; rfl
      have hz2 : (w1.alloc (.cells #[.string name, .int .i64 len, .int .i64 a0, .int .i64 a1, .int .i64 a2, .int .i64 res] 68)).heap.size = w1.heap.size + 1 := by simp
      have hg0 := ((bcell B2.out).1 w.heap.size 0 (by omega)).trans g0
      have hg1 := ((bcell B2.out).1 w.heap.size 1 (by omega)).trans g1
      have hg2 := ((bcell B2.out).1 w.heap.size 2 (by omega)).trans g2
      generalize w1.alloc (.cells #[.string name, .int .i64 len, .int .i64 a0, .int .i64 a1, .int .i64 a2, .int .i64 res] 68) = w2 at *
      clear g0 g1 g2
      rw [hz1] at f1 f2 hz2
      have B02 := Lib.hid (B1.out.trans (B2.out.mono (by omega)))
      have hcall := HTh.out res HRI.out w2 B02.out
      cases hres : thereB n1 res with
      | false =>
        replace HF := Lib.hid (show fb = false by rw [HF.out, hres]; rfl)
        rw [hres] at hcall
        clear hres f2
        refine hcall.mono ?_
        rintro e w3 ⟨rfl, hb⟩
        have B3 := Lib.hid (B02.out.trans (hb.mono B02.out.size))
        clear hb
        go_wp2_with fail
        go_ret
        exact ⟨ret_bool HF.out.symm, B3.out⟩
      | true =>
        replace HF := Lib.hid (show fb = ok 3 by rw [HF.out, hres]; rfl)
        rw [hres] at hcall
        clear hres
        have HF2 := Lib.hid f2
        clear f2
        refine hcall.mono ?_
        rintro e w3 ⟨rfl, hb⟩
        have B3 := Lib.hid (B02.out.trans (hb.mono B02.out.size))
        have k0 := ((bcell hb).1 w.heap.size 0 (by omega)).trans hg0
        have k1 := ((bcell hb).1 w.heap.size 1 (by omega)).trans hg1
        have k2 := ((bcell hb).1 w.heap.size 2 (by omega)).trans hg2
        have j1 := ((bcell hb).1 (w.heap.size + 1) 1 (by omega)).trans f1
        have J2 := Lib.hid (fun k hk => ((bcell hb).1 (w.heap.size + 1) (2 + k) (by omega)).trans (HF2.out k hk))
        have hz3 : w.heap.size + 2 ≤ w3.heap.size := by have := hb.size; omega
        clear hb hg0 hg1 hg2 f1
        go_wp2_with fail
        go_loopw [5] (fun v wr => ∃ k : Nat, k ≤ 3 ∧ v = .int .i64 k ∧ ok k = true ∧ Below w3.heap.size w3 wr) (fun v _ => 3 - (intOf v).toNat)
        case atStart => exact ⟨0, by omega, rfl, HZ.out, Below.refl _ _⟩
        case round =>
          obtain ⟨k, hk, rfl, hok, hb⟩ := hrel
          have HO := Lib.hid hok
          have HB := Lib.hid hb
          have p0 := ((bcell hb).1 w.heap.size 0 (by omega)).trans k0
          have p1 := ((bcell hb).1 w.heap.size 1 (by omega)).trans k1
          have p2 := ((bcell hb).1 w.heap.size 2 (by omega)).trans k2
          have q1 := ((bcell hb).1 (w.heap.size + 1) 1 (by omega)).trans j1
          clear hok
          by_cases hlt : k < 3
          · have hlt2 : (k : Int) < 3 := by omega
            have q2 := ((bcell hb).1 (w.heap.size + 1) (2 + k) (by omega)).trans (J2.out k hlt)
            have HA := Lib.hid (HArg.out k (ag k))
            have HN := Lib.hid (HS.out k)
            have HE := Lib.hid (HX.out k hlt)
            have hxi := HAI.out k
            generalize ag k = x at *
            clear hb k0 k1 k2 j1
            by_cases hl : (k : Int) < len
            · replace HA := Lib.hid (HA.out.trans (if_pos hl))
              have HC := Lib.hid (fun W (hW : Below wr.heap.size wr W) => HTh.out x hxi W (B3.out.trans ((HB.out.trans (hW.mono HB.out.size)).mono (by omega))))
              clear hxi
              cases ht : thereB n1 x with
              | true =>
                replace HN := Lib.hid (show ok (k + 1) = true by rw [HN.out, HO.out, HA.out, ht]; rfl)
                rw [ht] at HC
                clear ht
                have hge : decide (len ≤ (k : Int)) = false := decide_eq_false (by omega)
                go_wp2_with fail
                first
                  | (go_region_with (go_at_call 47; refine (HC.out _ ?_).mono ?_; exact (Below.refl wr.heap.size wr).drew; rintro e w4 ⟨rfl, hb4⟩; obtain ⟨y0, y1, y2, y3, y4⟩ := five_cells (show Below wr.heap.size wr w4 from (Below.refl wr.heap.size wr).drew.trans hb4) (by have := HB.out.size; omega) p0 p1 p2 q1 q2))
                  | fail
                all_goals
                  have HB4 := Lib.hid (HB.out.drew.trans (hb4.mono HB.out.size))
                  clear hb4
                  go_wp2_with fail
                  go_roundw
                  case rel => exact ⟨k + 1, by omega, by go_num, HN.out, HB4.out⟩
                  case measure => simp [intOf]; omega
              | false =>
                replace HE := Lib.hid (show fb = false by rw [HF.out]; exact HE.out (by rw [HA.out, ht]))
                rw [ht] at HC
                clear ht
                go_wp2_with fail
                have hundef : undef = Value.tuple #[] := rfl
                first
                  | (go_region_with (go_at_call 47; refine (HC.out _ ?_).mono ?_; exact (Below.refl wr.heap.size wr).drew; rintro e w4 ⟨rfl, hb4⟩; obtain ⟨y0, y1, y2, y3, y4⟩ := five_cells (show Below wr.heap.size wr w4 from (Below.refl wr.heap.size wr).drew.trans hb4) (by have := HB.out.size; omega) p0 p1 p2 q1 q2))
                  | fail
                all_goals
                  have HB4 := Lib.hid (B3.out.trans ((HB.out.drew.trans (hb4.mono HB.out.size)).mono (by omega)))
                  clear hb4
                  go_wp2_with fail
                  go_ret
                  exact ⟨ret_bool HE.out.symm, HB4.out⟩
            · have hl' := decide_eq_false hl
              have hge : len ≤ (k : Int) := by omega
              replace HA := Lib.hid (HA.out.trans (if_neg hl))
              by_cases hx : x = 0
              · replace HN := Lib.hid (show ok (k + 1) = true by rw [HN.out, HO.out, HA.out, hx]; rfl)
                rw [hx] at q2
                clear hx
                go_wp2_with fail
                go_quiet (fail)
                go_wp2_with fail
                go_roundw
                case rel => exact ⟨k + 1, by omega, by go_num, HN.out, ⟨HB.out.os, HB.out.tape, HB.out.output, HB.out.size, HB.out.block⟩⟩
                case measure => simp [intOf]; omega
              · have hx' : (x == 0) = false := beq_eq_false_iff_ne.2 hx
                have hx'' : (x != 0) = true := by rw [bne, hx']; rfl
                replace HE := Lib.hid (show fb = false by rw [HF.out]; exact HE.out (by rw [HA.out, hx']))
                have HB4 := Lib.hid (B3.out.trans (HB.out.mono (by omega)))
                go_wp2_with fail
                go_quiet (fail)
                go_wp2_with fail
                go_ret
                exact ⟨ret_bool HE.out.symm, ⟨HB4.out.os, HB4.out.tape, HB4.out.output, HB4.out.size, HB4.out.block⟩⟩
          · obtain rfl : k = 3 := by omega
            have HB4 := Lib.hid (B3.out.trans (HB.out.mono (by omega)))
            have HR := Lib.hid (HF.out.trans HO.out)
            clear hb
            go_wp2_with fail
            go_ret
            exact ⟨ret_bool HR.out.symm, HB4.out⟩
end Go.Proofs.YtfcmpfaonpnbaaaDoor.Sg
/- The document's sig: whether a macro may be. -/
namespace Go.Proofs.YtfcmpfaonpnbaaaDoor.Sg
open Go.RowKit Go.Proofs.YtfcmpfaonpnbaaaDoor.Dt

/-- whether the i-th parameter may be -/
def paramB (n : Nat) (ps : List Param) (i : Nat) : Bool := match ps[i]? with
  | none => true
  | some p => usableB (Lx.bs p.name) && thereB n p.sort && !hasB ((ps.map Param.name).take i) p.name
def paramsTo (n : Nat) (ps : List Param) (k : Nat) : Bool := (List.range k).all (paramB n ps)
def macroB (n : Nat) (m : Macro) : Bool := decide (m.params.length ≤ 3) && thereB n m.res && m.body.may && paramsTo n m.params m.params.length
theorem paramsTo_succ (n : Nat) (ps : List Param) (k : Nat) : paramsTo n ps (k + 1) = (paramsTo n ps k && paramB n ps k) := by unfold paramsTo; rw [List.range_succ, List.all_append]; simp
theorem paramsTo_stop {n : Nat} {ps : List Param} {k : Nat} (hk : k < ps.length) (h : paramB n ps k = false) : paramsTo n ps ps.length = false := by
  unfold paramsTo
  rw [List.all_eq_false]
  exact ⟨k, List.mem_range.2 hk, by rw [h]; simp⟩
theorem paramB_at {n : Nat} {ps : List Param} {k : Nat} {p : Param} (h : ps[k]? = some p) : paramB n ps k = (Lx.mayB (Lx.bs p.name) && !Lx.resB (Lx.bs p.name) && thereB n p.sort && !hasB ((ps.map Param.name).take k) p.name) := by unfold paramB; rw [h]; rfl
theorem mac_cells (w : World) (a b c d e f : Value) (t : TypeId) : (w.alloc (.cells #[a, b, c, d, e, f] t)).cell? ⟨w.heap.size, 1, none⟩ = some b ∧ (w.alloc (.cells #[a, b, c, d, e, f] t)).cell? ⟨w.heap.size, 2, none⟩ = some c ∧ (w.alloc (.cells #[a, b, c, d, e, f] t)).cell? ⟨w.heap.size, 3, none⟩ = some d ∧ (w.alloc (.cells #[a, b, c, d, e, f] t)).cell? ⟨w.heap.size, 4, none⟩ = some e ∧ (w.alloc (.cells #[a, b, c, d, e, f] t)).cell? ⟨w.heap.size, 5, none⟩ = some f := by
  refine ⟨?_, ?_, ?_, ?_, ?_⟩ <;> rw [World.cell?_alloc_mark] <;> rfl
theorem take_has {ns : List ByteArray} {j k : Nat} {x y : ByteArray} (h : ns[j]? = some x) (hj : j < k) (e : x = y) : hasB (ns.take k) y = true :=
  hasB_iff.2 (List.mem_of_getElem? (i := j) (by rw [List.getElem?_take, if_pos hj, h, e]))
/-- what stands in the two boxes -/
structure Boxes (w : World) (b : Nat) (u0 u1 u2 m1 m2 m3 m4 m5 : Value) : Prop where
  lt : b + 1 < w.heap.size
  u0 : w.cell? ⟨b, 0, none⟩ = some u0
  u1 : w.cell? ⟨b, 1, none⟩ = some u1
  u2 : w.cell? ⟨b, 2, none⟩ = some u2
  m1 : w.cell? ⟨b + 1, 1, none⟩ = some m1
  m2 : w.cell? ⟨b + 1, 2, none⟩ = some m2
  m3 : w.cell? ⟨b + 1, 3, none⟩ = some m3
  m4 : w.cell? ⟨b + 1, 4, none⟩ = some m4
  m5 : w.cell? ⟨b + 1, 5, none⟩ = some m5
theorem Boxes.on {w w' : World} {b : Nat} {u0 u1 u2 m1 m2 m3 m4 m5 : Value} (h : Boxes w b u0 u1 u2 m1 m2 m3 m4 m5) (hb : Below w.heap.size w w') : Boxes w' b u0 u1 u2 m1 m2 m3 m4 m5 := by
  have l0 : b < w.heap.size := by have := h.lt; omega
  exact ⟨Nat.lt_of_lt_of_le h.lt hb.size, ((bcell hb).1 b 0 l0).trans h.u0, ((bcell hb).1 b 1 l0).trans h.u1, ((bcell hb).1 b 2 l0).trans h.u2, ((bcell hb).1 (b + 1) 1 h.lt).trans h.m1, ((bcell hb).1 (b + 1) 2 h.lt).trans h.m2, ((bcell hb).1 (b + 1) 3 h.lt).trans h.m3, ((bcell hb).1 (b + 1) 4 h.lt).trans h.m4, ((bcell hb).1 (b + 1) 5 h.lt).trans h.m5⟩

theorem boxes_made (w : World) (u0 u1 u2 m0 m1 m2 m3 m4 m5 : Value) (t t' : TypeId) : Boxes ((w.alloc (.cells #[u0, u1, u2] t)).alloc (.cells #[m0, m1, m2, m3, m4, m5] t')) w.heap.size u0 u1 u2 m1 m2 m3 m4 m5 := by
  obtain ⟨g0, g1, g2⟩ := sig_cells w u0 u1 u2 t
  obtain ⟨k1, k2, k3, k4, k5⟩ := mac_cells (w.alloc (.cells #[u0, u1, u2] t)) m0 m1 m2 m3 m4 m5 t'
  have hz : (w.alloc (.cells #[u0, u1, u2] t)).heap.size = w.heap.size + 1 := by simp
  have hb := (Below.refl (w.alloc (.cells #[u0, u1, u2] t)).heap.size (w.alloc (.cells #[u0, u1, u2] t))).alloc (Nat.le_refl _) (.cells #[m0, m1, m2, m3, m4, m5] t')
  have e := fun o => (bcell hb).1 w.heap.size o (by omega)
  rw [hz] at k1 k2 k3 k4 k5
  exact ⟨by simp, (e 0).trans g0, (e 1).trans g1, (e 2).trans g2, k1, k2, k3, k4, k5⟩

set_option maxRecDepth 100000 in
set_option maxHeartbeats 3200000 in
theorem rmacro_any {w : World} {A1 A2 A3 : Option Addr} {c1 n2 c2 n3 c3 : Nat} {l : List ByteArray} (h : Lies 1 StrR w A1 l) (hc : l.length ≤ c1) (hcm : (l.length : Int) ≤ 140737488351232)
    {Ap Ab : Option Addr} {cp cb : Nat} (m : Macro) (hp : Lies 2 ParamR w Ap m.params) (hpl : m.params.length ≤ maxLen) (hx : SexpR w [.int .i8 m.body.kind, .string m.body.text, .slice Ab m.body.l.length cb] m.body) (hres : I64 m.res) :
    Calls Tryd.prog 30 #[.agg #[.slice A1 l.length c1, .slice A2 n2 c2, .slice A3 n3 c3], .agg #[.string m.name, .slice Ap m.params.length cp, .int .i64 m.res, .int .i8 m.body.kind, .string m.body.text, .slice Ab m.body.l.length cb]] w fun e w' => e = .returned (.bool (macroB l.length m)) ∧ Below w.heap.size w w' := by
  have HTh := Lib.hid (fun s hs W (hW : Below w.heap.size w W) => rthere_any (A2 := A2) (A3 := A3) (n2 := n2) (c2 := c2) (n3 := n3) (c3 := c3) (h.on StrR.lasts hW) hc hcm s hs)
  have HSx := Lib.hid (fun W (hW : Below w.heap.size w W) => rsxmay_any (SexpR.lasts _ _ _ _ hW hx))
  have HLp := Lib.hid (fun W (hW : Below w.heap.size w W) => hp.on ParamR.lasts hW)
  have HP := Lib.hid (fun k p => paramB_at (n := l.length) (ps := m.params) (k := k) (p := p))
  have HPs := Lib.hid (paramsTo_succ l.length m.params)
  have HPx := Lib.hid (fun k hk h => paramsTo_stop (n := l.length) (ps := m.params) (k := k) hk h)
  have HNm := Lib.hid (fun k x => map_at (l := m.params) (nm := Param.name) (k := k) (x := x))
  have HPL := Lib.hid hpl
  have HRI := Lib.hid hres
  have HE := Lib.hid (show macroB l.length m = (decide (m.params.length ≤ 3) && thereB l.length m.res && m.body.may && paramsTo l.length m.params m.params.length) from rfl)
  have HZ := Lib.hid (show paramsTo l.length m.params 0 = true from rfl)
  clear h hp hx hc hpl hres
  generalize macroB l.length m = mb at *
  generalize paramsTo l.length m.params = pt at *
  generalize paramB l.length m.params = pb at *
  generalize m.params.map Param.name = ns at *
  generalize m.body.may = bm at *
  generalize m.body.kind = bk at *
  generalize m.body.text = bt at *
  generalize m.body.l.length = bl at *
  generalize m.params = ps at *
  generalize m.res = res at *
  generalize m.name = nm at *
  have B2 := Lib.hid (((Below.refl w.heap.size w).alloc (Nat.le_refl _) (.cells #[.slice A1 l.length c1, .slice A2 n2 c2, .slice A3 n3 c3] 26)).alloc (by simp) (.cells #[.string nm, .slice Ap ps.length cp, .int .i64 res, .int .i8 bk, .string bt, .slice Ab bl cb] 56))
  have HX2 := Lib.hid (boxes_made w (.slice A1 l.length c1) (.slice A2 n2 c2) (.slice A3 n3 c3) (.string nm) (.slice Ap ps.length cp) (.int .i64 res) (.int .i8 bk) (.string bt) (.slice Ab bl cb) 26 56)
  by_cases h3 : 3 < (ps.length : Int)
  · go_enter Tryd.func30, Tryd.ntmps30
    go_wp2_with fail
    go_ret
    exact ⟨ret_bool (by rw [HE.out, decide_eq_false (by omega)]; rfl), B2.out⟩
  · have h3' : decide (3 < (ps.length : Int)) = false := decide_eq_false h3
    replace HE := Lib.hid (show mb = (thereB l.length res && bm && pt ps.length) by rw [HE.out, decide_eq_true (show ps.length ≤ 3 by omega)]; rfl)
    obtain ⟨hz2, x0, x1, x2, y1, y2, y3, y4, y5⟩ := HX2.out
    go_enter Tryd.func30, Tryd.ntmps30
    go_wp2_with fail
    generalize (w.alloc (.cells #[.slice A1 l.length c1, .slice A2 n2 c2, .slice A3 n3 c3] 26)).alloc (.cells #[.string nm, .slice Ap ps.length cp, .int .i64 res, .int .i8 bk, .string bt, .slice Ab bl cb] 56) = w2 at *
    have hcall := HTh.out res HRI.out w2 B2.out
    clear x0 x1 x2 y1 y2 y3 y4 y5
    cases ht : thereB l.length res with
    | false =>
      replace HE := Lib.hid (show mb = false by rw [HE.out, ht]; rfl)
      rw [ht] at hcall
      clear ht
      refine hcall.mono ?_
      rintro e w3 ⟨rfl, hb⟩
      have B3 := Lib.hid (B2.out.trans (hb.mono B2.out.size))
      clear hb
      go_wp2_with fail
      go_ret
      exact ⟨ret_bool HE.out.symm, B3.out⟩
    | true =>
      replace HE := Lib.hid (show mb = (bm && pt ps.length) by rw [HE.out, ht]; rfl)
      rw [ht] at hcall
      clear ht
      refine hcall.mono ?_
      rintro e w3 ⟨rfl, hb⟩
      have B3 := Lib.hid (B2.out.trans (hb.mono B2.out.size))
      have HX3 := Lib.hid (HX2.out.on hb)
      clear hb HX2
      obtain ⟨hz3, x0, x1, x2, y1, y2, y3, y4, y5⟩ := HX3.out
      have hcall := HSx.out w3 B3.out
      go_wp2_with fail
      clear x0 x1 x2 y1 y2 y3 y4 y5
      cases bm with
      | false =>
        replace HE := Lib.hid (show mb = false by rw [HE.out]; rfl)
        refine hcall.mono ?_
        rintro e w4 ⟨rfl, hb⟩
        have B4 := Lib.hid (B3.out.trans (hb.mono B3.out.size))
        clear hb
        go_wp2_with fail
        go_ret
        exact ⟨ret_bool HE.out.symm, B4.out⟩
      | true =>
        replace HE := Lib.hid (show mb = pt ps.length by rw [HE.out]; rfl)
        refine hcall.mono ?_
        rintro e w4 ⟨rfl, hb⟩
        have B4 := Lib.hid (B3.out.trans (hb.mono B3.out.size))
        have HX4 := Lib.hid (HX3.out.on hb)
        clear hb HX3 hcall
        go_wp2_with fail
        go_loopw [5] (fun v wr => ∃ k : Nat, k ≤ ps.length ∧ v = .int .i64 k ∧ pt k = true ∧ Below w4.heap.size w4 wr) (fun v _ => ps.length - (intOf v).toNat)
        case atStart => exact ⟨0, by omega, rfl, HZ.out, Below.refl _ _⟩
        case round =>
          obtain ⟨k, hk, rfl, hok, hb⟩ := hrel
          have HO := Lib.hid hok
          have B5 := Lib.hid (B4.out.trans (hb.mono B4.out.size))
          have B45 := Lib.hid hb
          have HX5 := Lib.hid (HX4.out.on hb)
          clear hok hb
          by_cases hlt : k < ps.length
          · have hlt2 : (k : Int) < (ps.length : Int) := by omega
            have hx := List.getElem?_eq_getElem hlt
            generalize ps[k] = p at hx
            have HL5 := Lib.hid (HLp.out wr B5.out)
            obtain ⟨b, o, vs, rfl, hbl, _, hcell, hr⟩ := HL5.out.at' hx
            obtain ⟨rfl, hps, hpi⟩ := hr
            have c0 := hcell 0 _ rfl
            have c1 := hcell 1 _ rfl
            rw [Nat.add_zero] at c0
            have HPk := Lib.hid (HP.out k p hx)
            have HNk := Lib.hid (HNm.out k p hx)
            clear hx hcell
            generalize p.name = y at *
            generalize p.sort = sr at *
            obtain ⟨hz5, x0, x1, x2, y1, y2, y3, y4, y5⟩ := HX5.out
            go_wp2_with fail
            have BA := Lib.hid ((Below.refl wr.heap.size wr).alloc (Nat.le_refl _) (.cells #[.string y, .int .i64 sr] 104))
            have z6 : wr.heap.size < (wr.alloc (.cells #[.string y, .int .i64 sr] 104)).heap.size := by simp
            have q0 : (wr.alloc (.cells #[.string y, .int .i64 sr] 104)).cell? ⟨wr.heap.size, 0, none⟩ = some (.string y) := by rw [World.cell?_alloc_mark]; rfl
            have q1 : (wr.alloc (.cells #[.string y, .int .i64 sr] 104)).cell? ⟨wr.heap.size, 1, none⟩ = some (.int .i64 sr) := by rw [World.cell?_alloc_mark]; rfl
            generalize wr.alloc (.cells #[.string y, .int .i64 sr] 104) = w6 at *
            have B6 := Lib.hid (B5.out.trans (BA.out.mono B5.out.size))
            have B46 := Lib.hid (B45.out.trans (BA.out.mono B45.out.size))
            have HX6 := Lib.hid (HX5.out.on BA.out)
            clear HX5 x0 x1 x2 y1 y2 y3 y4 y5 c0 c1 hz5
            have hm := Lx.rmay_any y w6 (by omega)
            generalize Lx.mayB (Lx.bs y) = bmay at *
            cases bmay with
            | false =>
              have HR := Lib.hid (show mb = false by rw [HE.out]; exact HPx.out k hlt (by rw [HPk.out]; rfl))
              refine hm.mono ?_
              rintro e w7 ⟨rfl, rfl⟩
              go_wp2_with fail
              go_ret
              exact ⟨ret_bool HR.out.symm, B6.out⟩
            | true =>
              refine hm.mono ?_
              rintro e w7 ⟨rfl, rfl⟩
              have hm := Lx.rreserved_any y w6
              go_wp2_with fail
              generalize Lx.resB (Lx.bs y) = brs at *
              cases brs with
              | true =>
                have HR := Lib.hid (show mb = false by rw [HE.out]; exact HPx.out k hlt (by rw [HPk.out]; rfl))
                refine hm.mono ?_
                rintro e w7 ⟨rfl, rfl⟩
                go_wp2_with fail
                go_ret
                exact ⟨ret_bool HR.out.symm, B6.out⟩
              | false =>
                replace HPk := Lib.hid (show pb k = (thereB l.length sr && !hasB (List.take k ns) y) from HPk.out)
                refine hm.mono ?_
                rintro e w7 ⟨rfl, rfl⟩
                have hcall := HTh.out sr hpi w6 B6.out
                obtain ⟨hz6, x0, x1, x2, y1, y2, y3, y4, y5⟩ := HX6.out
                go_wp2_with fail
                clear x0 x1 x2 y1 y2 y3 y4 y5
                cases ht : thereB l.length sr with
                | false =>
                  have HR := Lib.hid (show mb = false by rw [HE.out]; exact HPx.out k hlt (by rw [HPk.out, ht]; rfl))
                  rw [ht] at hcall
                  clear ht
                  refine hcall.mono ?_
                  rintro e w7 ⟨rfl, hb⟩
                  have B7 := Lib.hid (B6.out.trans (hb.mono B6.out.size))
                  clear hb
                  go_wp2_with fail
                  go_ret
                  exact ⟨ret_bool HR.out.symm, B7.out⟩
                | true =>
                  replace HPk := Lib.hid (show pb k = !hasB (List.take k ns) y by rw [HPk.out, ht]; rfl)
                  rw [ht] at hcall
                  clear ht
                  refine hcall.mono ?_
                  rintro e w7 ⟨rfl, hb⟩
                  have B7 := Lib.hid (B6.out.trans (hb.mono B6.out.size))
                  have B47 := Lib.hid (B46.out.trans (hb.mono B46.out.size))
                  have HX7 := Lib.hid (HX6.out.on hb)
                  have r0 := ((bcell hb).1 wr.heap.size 0 z6).trans q0
                  have z7 : wr.heap.size < w7.heap.size := by have := hb.size; omega
                  clear hb q0 q1 hcall HX6 hz6 z6
                  go_wp2_with fail
                  generalize wr.heap.size = bp at r0 z7 ⊢
                  go_loopw [7] (fun v wv => ∃ j : Nat, j ≤ k ∧ v = .int .i64 j ∧ hasB (ns.take j) y = false ∧ Below w7.heap.size w7 wv) (fun v _ => k - (intOf v).toNat)
                  case atStart => exact ⟨0, by omega, rfl, rfl, Below.refl _ _⟩
                  case round =>
                    obtain ⟨j, hj, rfl, hno, hb⟩ := hrel
                    have HNo := Lib.hid hno
                    have HB := Lib.hid hb
                    clear hno
                    by_cases hjl : j < k
                    · have hjl2 : (j : Int) < (k : Int) := by omega
                      have hxj := List.getElem?_eq_getElem (show j < ps.length by omega)
                      generalize ps[j] = pj at hxj
                      have HL8 := Lib.hid (HLp.out wr (B7.out.trans (hb.mono B7.out.size)))
                      obtain ⟨b', o', vs', hbo, hbl', _, hcell, hr⟩ := HL8.out.at' hxj
                      have hbo1 : b' = b ∧ o' = o := by simp at hbo; exact ⟨hbo.1.symm, hbo.2.symm⟩
                      obtain ⟨rfl, rfl⟩ := hbo1
                      obtain ⟨rfl, _, _⟩ := hr
                      have d0 := hcell 0 _ rfl
                      rw [Nat.add_zero] at d0
                      have HNj := Lib.hid (HNm.out j pj hxj)
                      clear hxj hcell
                      generalize pj.name = yj at *
                      obtain ⟨hz8, x0, x1, x2, y1, y2, y3, y4, y5⟩ := HX7.out.on hb
                      have s0 := ((bcell hb).1 bp 0 z7).trans r0
                      clear hb
                      by_cases he : yj = y
                      · have HR := Lib.hid (show mb = false by rw [HE.out]; exact HPx.out k hlt (by rw [HPk.out, take_has HNj.out hjl he]; rfl))
                        subst he
                        go_wp2_with fail
                        go_region
                        all_goals go_wp2_with fail
                        go_ret
                        have B9 := B7.out.trans (HB.out.mono B7.out.size)
                        exact ⟨ret_bool HR.out.symm, ⟨B9.os, B9.tape, B9.output, B9.size, B9.block⟩⟩
                      · have he1 := text_ne he
                        have HQ := Lib.hid (find_step HNj.out HNo.out he)
                        go_wp2_with fail
                        go_region
                        all_goals go_wp2_with fail
                        go_roundw
                        case rel => exact ⟨j + 1, by omega, by go_num, HQ.out, ⟨HB.out.os, HB.out.tape, HB.out.output, HB.out.size, HB.out.block⟩⟩
                        case measure => simp [intOf]; omega
                    · obtain rfl : j = k := by omega
                      have HR := Lib.hid (show pt (j + 1) = true by rw [HPs.out, HO.out, HPk.out, HNo.out]; rfl)
                      have B9 := Lib.hid (B47.out.trans (HB.out.mono B47.out.size))
                      clear hb
                      go_wp2_with fail
                      go_roundw
                      case rel => exact ⟨j + 1, by omega, by go_num, HR.out, B9.out⟩
                      case measure => simp [intOf]; omega
          · obtain rfl : k = ps.length := by omega
            have HR := Lib.hid (HE.out.trans HO.out)
            obtain ⟨hz5, x0, x1, x2, y1, y2, y3, y4, y5⟩ := HX5.out
            go_wp2_with fail
            go_ret
            exact ⟨ret_bool HR.out.symm, B5.out⟩
end Go.Proofs.YtfcmpfaonpnbaaaDoor.Sg
/- What a signature's check tells. No condition. -/
namespace Go.Proofs.YtfcmpfaonpnbaaaDoor.Sg
open Go.RowKit Go.Proofs.YtfcmpfaonpnbaaaDoor.Dt

/-- whether all of the first k may be -/
def allTo (p : Nat → Bool) (k : Nat) : Bool := (List.range k).all p
theorem allTo_zero (p : Nat → Bool) : allTo p 0 = true := rfl
theorem allTo_succ (p : Nat → Bool) (k : Nat) : allTo p (k + 1) = (allTo p k && p k) := by unfold allTo; rw [List.range_succ, List.all_append]; simp
theorem allTo_stop {p : Nat → Bool} {k n : Nat} (hk : k < n) (h : p k = false) : allTo p n = false := by
  unfold allTo
  rw [List.all_eq_false]
  exact ⟨k, List.mem_range.2 hk, by rw [h]; simp⟩
def sortOk (l : List ByteArray) (i : Nat) : Bool := match l[i]? with
  | none => true
  | some s => usableB (Lx.bs s) && !hasB (allSorts (l.take i)) s
def funOk (g : Sig) (i : Nat) : Bool := match g.funs[i]? with
  | none => true
  | some f => usableB (Lx.bs f.name) && !(hasB ((g.funs.map Fun4.name).take i) f.name || coreB (Lx.bs f.name)) && funB g.sorts.length f
def macOk (g : Sig) (i : Nat) : Bool := match g.macros[i]? with
  | none => true
  | some m => usableB (Lx.bs m.name) && !(hasB (g.funs.map Fun4.name) m.name || hasB ((g.macros.map Macro.name).take i) m.name || coreB (Lx.bs m.name)) && macroB g.sorts.length m
/-- whether a signature may be -/
def checkB (g : Sig) : Bool :=
  (decide (g.sorts.length ≤ 4) && decide (g.funs.length ≤ 12) && decide (g.macros.length ≤ 12)) && (allTo (sortOk g.sorts) g.sorts.length && allTo (funOk g) g.funs.length && allTo (macOk g) g.macros.length)
def checkE (g : Sig) : Int := if checkB g then 0 else 2
theorem checkE_true {g : Sig} (h : checkB g = true) : checkE g = 0 := by unfold checkE; rw [h]; rfl
theorem checkE_false {g : Sig} (h : checkB g = false) : checkE g = 2 := by unfold checkE; rw [h]; rfl
/-- a name is free among those that are there so far -/
theorem free_sort {l : List ByteArray} {i : Nat} {s : ByteArray} (h : l[i]? = some s) : (freeE ⟨l.take i, [], []⟩ s true = 0) ↔ sortOk l i = true := by
  unfold freeE sortOk
  rw [h]
  cases hu : usableB (Lx.bs s) <;> cases hh : hasB (allSorts (l.take i)) s <;> simp [hu, hh]
theorem free_fun {g : Sig} {i : Nat} {f : Fun4} (h : g.funs[i]? = some f) : funOk g i = (decide (freeE ⟨g.sorts, g.funs.take i, []⟩ f.name false = 0) && funB g.sorts.length f) := by
  unfold freeE funOk
  rw [h]
  simp only [List.map_take, List.map_nil]
  cases hu : usableB (Lx.bs f.name) <;> cases hh : hasB ((g.funs.map Fun4.name).take i) f.name <;> cases hc : coreB (Lx.bs f.name) <;> simp [hasB]
theorem free_macro {g : Sig} {i : Nat} {m : Macro} (h : g.macros[i]? = some m) : macOk g i = (decide (freeE ⟨g.sorts, g.funs, g.macros.take i⟩ m.name false = 0) && macroB g.sorts.length m) := by
  unfold freeE macOk
  rw [h]
  simp only [List.map_take]
  cases hu : usableB (Lx.bs m.name) <;> cases hh : hasB (g.funs.map Fun4.name) m.name <;> cases hk : hasB ((g.macros.map Macro.name).take i) m.name <;> cases hc : coreB (Lx.bs m.name) <;> simp
end Go.Proofs.YtfcmpfaonpnbaaaDoor.Sg
