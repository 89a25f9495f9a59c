import Derived.Test.YtfcmpfaonpnbaaaGreatDoorMd
import Derived.Deep.RegionWith
import Derived.Test.YtfcmpfaonpnbaaaGreatDoorMe
import Derived.Test.YtfcmpfaonpnbaaaGreatDoorMc
import Derived.Test.YtfcmpfaonpnbaaaGreatDoorMb
/- merged by wip/merge.py from: SigMac SigCheckS SigChkA Great4 -/
/- The document's sig: whether a macro may be. -/
namespace Go.Proofs.YtfcmpfaonpnbaaaGreatDoor.Sg
open Go.RowKit Go.Proofs.YtfcmpfaonpnbaaaGreatDoor.Dt

/-- whether the i-th parameter may be -/
def paramB (n : Nat) (ps : List Param) (i : Nat) : Bool := match ps[i]? with
  | none => true
  | some p => usableB (Lx.bs p.name) && thereB n p.sort && !hasB ((ps.map Param.name).take i) p.name
def paramsTo (n : Nat) (ps : List Param) (k : Nat) : Bool := (List.range k).all (paramB n ps)
def macroB (n : Nat) (m : Macro) : Bool := decide (m.params.length ≤ 3) && thereB n m.res && m.body.may && paramsTo n m.params m.params.length
theorem paramsTo_succ (n : Nat) (ps : List Param) (k : Nat) : paramsTo n ps (k + 1) = (paramsTo n ps k && paramB n ps k) := by unfold paramsTo; rw [List.range_succ, List.all_append]; simp
theorem paramsTo_stop {n : Nat} {ps : List Param} {k : Nat} (hk : k < ps.length) (h : paramB n ps k = false) : paramsTo n ps ps.length = false := by
  unfold paramsTo
  rw [List.all_eq_false]
  exact ⟨k, List.mem_range.2 hk, by rw [h]; simp⟩
theorem paramB_at {n : Nat} {ps : List Param} {k : Nat} {p : Param} (h : ps[k]? = some p) : paramB n ps k = (Lx.mayB (Lx.bs p.name) && !Lx.resB (Lx.bs p.name) && thereB n p.sort && !hasB ((ps.map Param.name).take k) p.name) := by unfold paramB; rw [h]; rfl
theorem mac_cells (w : World) (a b c d e f : Value) (t : TypeId) : (w.alloc (.cells #[a, b, c, d, e, f] t)).cell? ⟨w.heap.size, 1, none⟩ = some b ∧ (w.alloc (.cells #[a, b, c, d, e, f] t)).cell? ⟨w.heap.size, 2, none⟩ = some c ∧ (w.alloc (.cells #[a, b, c, d, e, f] t)).cell? ⟨w.heap.size, 3, none⟩ = some d ∧ (w.alloc (.cells #[a, b, c, d, e, f] t)).cell? ⟨w.heap.size, 4, none⟩ = some e ∧ (w.alloc (.cells #[a, b, c, d, e, f] t)).cell? ⟨w.heap.size, 5, none⟩ = some f := by
  refine ⟨?_, ?_, ?_, ?_, ?_⟩ <;> rw [World.cell?_alloc_mark] <;> rfl
theorem take_has {ns : List ByteArray} {j k : Nat} {x y : ByteArray} (h : ns[j]? = some x) (hj : j < k) (e : x = y) : hasB (ns.take k) y = true :=
  hasB_iff.2 (List.mem_of_getElem? (i := j) (by rw [List.getElem?_take, if_pos hj, h, e]))
/-- what stands in the two boxes -/
structure Boxes (w : World) (b : Nat) (u0 u1 u2 m1 m2 m3 m4 m5 : Value) : Prop where
  lt : b + 1 < w.heap.size
  u0 : w.cell? ⟨b, 0, none⟩ = some u0
  u1 : w.cell? ⟨b, 1, none⟩ = some u1
  u2 : w.cell? ⟨b, 2, none⟩ = some u2
  m1 : w.cell? ⟨b + 1, 1, none⟩ = some m1
  m2 : w.cell? ⟨b + 1, 2, none⟩ = some m2
  m3 : w.cell? ⟨b + 1, 3, none⟩ = some m3
  m4 : w.cell? ⟨b + 1, 4, none⟩ = some m4
  m5 : w.cell? ⟨b + 1, 5, none⟩ = some m5
theorem Boxes.on {w w' : World} {b : Nat} {u0 u1 u2 m1 m2 m3 m4 m5 : Value} (h : Boxes w b u0 u1 u2 m1 m2 m3 m4 m5) (hb : Below w.heap.size w w') : Boxes w' b u0 u1 u2 m1 m2 m3 m4 m5 := by
  have l0 : b < w.heap.size := by have := h.lt; omega
  exact ⟨Nat.lt_of_lt_of_le h.lt hb.size, ((bcell hb).1 b 0 l0).trans h.u0, ((bcell hb).1 b 1 l0).trans h.u1, ((bcell hb).1 b 2 l0).trans h.u2, ((bcell hb).1 (b + 1) 1 h.lt).trans h.m1, ((bcell hb).1 (b + 1) 2 h.lt).trans h.m2, ((bcell hb).1 (b + 1) 3 h.lt).trans h.m3, ((bcell hb).1 (b + 1) 4 h.lt).trans h.m4, ((bcell hb).1 (b + 1) 5 h.lt).trans h.m5⟩

theorem boxes_made (w : World) (u0 u1 u2 m0 m1 m2 m3 m4 m5 : Value) (t t' : TypeId) : Boxes ((w.alloc (.cells #[u0, u1, u2] t)).alloc (.cells #[m0, m1, m2, m3, m4, m5] t')) w.heap.size u0 u1 u2 m1 m2 m3 m4 m5 := by
  obtain ⟨g0, g1, g2⟩ := sig_cells w u0 u1 u2 t
  obtain ⟨k1, k2, k3, k4, k5⟩ := mac_cells (w.alloc (.cells #[u0, u1, u2] t)) m0 m1 m2 m3 m4 m5 t'
  have hz : (w.alloc (.cells #[u0, u1, u2] t)).heap.size = w.heap.size + 1 := by simp
  have hb := (Below.refl (w.alloc (.cells #[u0, u1, u2] t)).heap.size (w.alloc (.cells #[u0, u1, u2] t))).alloc (Nat.le_refl _) (.cells #[m0, m1, m2, m3, m4, m5] t')
  have e := fun o => (bcell hb).1 w.heap.size o (by omega)
  rw [hz] at k1 k2 k3 k4 k5
  exact ⟨by simp, (e 0).trans g0, (e 1).trans g1, (e 2).trans g2, k1, k2, k3, k4, k5⟩

set_option maxRecDepth 100000 in
set_option maxHeartbeats 3200000 in
theorem rmacro_any {w : World} {A1 A2 A3 : Option Addr} {c1 n2 c2 n3 c3 : Nat} {l : List ByteArray} (h : Lies 1 StrR w A1 l) (hc : l.length ≤ c1) (hcm : (l.length : Int) ≤ 140737488351232)
    {Ap Ab : Option Addr} {cp cb : Nat} (m : Macro) (hp : Lies 2 ParamR w Ap m.params) (hpl : m.params.length ≤ maxLen) (hx : SexpR w [.int .i8 m.body.kind, .string m.body.text, .slice Ab m.body.l.length cb] m.body) (hres : I64 m.res) :
    Calls Tryz.prog 62 #[.agg #[.slice A1 l.length c1, .slice A2 n2 c2, .slice A3 n3 c3], .agg #[.string m.name, .slice Ap m.params.length cp, .int .i64 m.res, .int .i8 m.body.kind, .string m.body.text, .slice Ab m.body.l.length cb]] w fun e w' => e = .returned (.bool (macroB l.length m)) ∧ Below w.heap.size w w' := by
  have HTh := Lib.hid (fun s hs W (hW : Below w.heap.size w W) => rthere_any (A2 := A2) (A3 := A3) (n2 := n2) (c2 := c2) (n3 := n3) (c3 := c3) (h.on StrR.lasts hW) hc hcm s hs)
  have HSx := Lib.hid (fun W (hW : Below w.heap.size w W) => rsxmay_any (SexpR.lasts _ _ _ _ hW hx))
  have HLp := Lib.hid (fun W (hW : Below w.heap.size w W) => hp.on ParamR.lasts hW)
  have HP := Lib.hid (fun k p => paramB_at (n := l.length) (ps := m.params) (k := k) (p := p))
  have HPs := Lib.hid (paramsTo_succ l.length m.params)
  have HPx := Lib.hid (fun k hk h => paramsTo_stop (n := l.length) (ps := m.params) (k := k) hk h)
  have HNm := Lib.hid (fun k x => map_at (l := m.params) (nm := Param.name) (k := k) (x := x))
  have HPL := Lib.hid hpl
  have HRI := Lib.hid hres
  have HE := Lib.hid (show macroB l.length m = (decide (m.params.length ≤ 3) && thereB l.length m.res && m.body.may && paramsTo l.length m.params m.params.length) from rfl)
  have HZ := Lib.hid (show paramsTo l.length m.params 0 = true from rfl)
  clear h hp hx hc hpl hres
  generalize macroB l.length m = mb at *
  generalize paramsTo l.length m.params = pt at *
  generalize paramB l.length m.params = pb at *
  generalize m.params.map Param.name = ns at *
  generalize m.body.may = bm at *
  generalize m.body.kind = bk at *
  generalize m.body.text = bt at *
  generalize m.body.l.length = bl at *
  generalize m.params = ps at *
  generalize m.res = res at *
  generalize m.name = nm at *
  have B2 := Lib.hid (((Below.refl w.heap.size w).alloc (Nat.le_refl _) (.cells #[.slice A1 l.length c1, .slice A2 n2 c2, .slice A3 n3 c3] 26)).alloc (by simp) (.cells #[.string nm, .slice Ap ps.length cp, .int .i64 res, .int .i8 bk, .string bt, .slice Ab bl cb] 53))
  have HX2 := Lib.hid (boxes_made w (.slice A1 l.length c1) (.slice A2 n2 c2) (.slice A3 n3 c3) (.string nm) (.slice Ap ps.length cp) (.int .i64 res) (.int .i8 bk) (.string bt) (.slice Ab bl cb) 26 53)
  by_cases h3 : 3 < (ps.length : Int)
  · go_enter Tryz.func62, Tryz.ntmps62
    go_wp2_with fail
    go_ret
    exact ⟨ret_bool (by rw [HE.out, decide_eq_false (by omega)]; rfl), B2.out⟩
  · have h3' : decide (3 < (ps.length : Int)) = false := decide_eq_false h3
    replace HE := Lib.hid (show mb = (thereB l.length res && bm && pt ps.length) by rw [HE.out, decide_eq_true (show ps.length ≤ 3 by omega)]; rfl)
    obtain ⟨hz2, x0, x1, x2, y1, y2, y3, y4, y5⟩ := HX2.out
    go_enter Tryz.func62, Tryz.ntmps62
    go_wp2_with fail
    generalize (w.alloc (.cells #[.slice A1 l.length c1, .slice A2 n2 c2, .slice A3 n3 c3] 26)).alloc (.cells #[.string nm, .slice Ap ps.length cp, .int .i64 res, .int .i8 bk, .string bt, .slice Ab bl cb] 53) = w2 at *
    have hcall := HTh.out res HRI.out w2 B2.out
    clear x0 x1 x2 y1 y2 y3 y4 y5
    cases ht : thereB l.length res with
    | false =>
      replace HE := Lib.hid (show mb = false by rw [HE.out, ht]; rfl)
      rw [ht] at hcall
      clear ht
      refine hcall.mono ?_
      rintro e w3 ⟨rfl, hb⟩
      have B3 := Lib.hid (B2.out.trans (hb.mono B2.out.size))
      clear hb
      go_wp2_with fail
      go_ret
      exact ⟨ret_bool HE.out.symm, B3.out⟩
    | true =>
      replace HE := Lib.hid (show mb = (bm && pt ps.length) by rw [HE.out, ht]; rfl)
      rw [ht] at hcall
      clear ht
      refine hcall.mono ?_
      rintro e w3 ⟨rfl, hb⟩
      have B3 := Lib.hid (B2.out.trans (hb.mono B2.out.size))
      have HX3 := Lib.hid (HX2.out.on hb)
      clear hb HX2
      obtain ⟨hz3, x0, x1, x2, y1, y2, y3, y4, y5⟩ := HX3.out
      have hcall := HSx.out w3 B3.out
      go_wp2_with fail
      clear x0 x1 x2 y1 y2 y3 y4 y5
      cases bm with
      | false =>
        replace HE := Lib.hid (show mb = false by rw [HE.out]; rfl)
        refine hcall.mono ?_
        rintro e w4 ⟨rfl, hb⟩
        have B4 := Lib.hid (B3.out.trans (hb.mono B3.out.size))
        clear hb
        go_wp2_with fail
        go_ret
        exact ⟨ret_bool HE.out.symm, B4.out⟩
      | true =>
        replace HE := Lib.hid (show mb = pt ps.length by rw [HE.out]; rfl)
        refine hcall.mono ?_
        rintro e w4 ⟨rfl, hb⟩
        have B4 := Lib.hid (B3.out.trans (hb.mono B3.out.size))
        have HX4 := Lib.hid (HX3.out.on hb)
        clear hb HX3 hcall
        go_wp2_with fail
        go_loopw [5] (fun v wr => ∃ k : Nat, k ≤ ps.length ∧ v = .int .i64 k ∧ pt k = true ∧ Below w4.heap.size w4 wr) (fun v _ => ps.length - (intOf v).toNat)
        case atStart => exact ⟨0, by omega, rfl, HZ.out, Below.refl _ _⟩
        case round =>
          obtain ⟨k, hk, rfl, hok, hb⟩ := hrel
          have HO := Lib.hid hok
          have B5 := Lib.hid (B4.out.trans (hb.mono B4.out.size))
          have B45 := Lib.hid hb
          have HX5 := Lib.hid (HX4.out.on hb)
          clear hok hb
          by_cases hlt : k < ps.length
          · have hlt2 : (k : Int) < (ps.length : Int) := by omega
            have hx := List.getElem?_eq_getElem hlt
            generalize ps[k] = p at hx
            have HL5 := Lib.hid (HLp.out wr B5.out)
            obtain ⟨b, o, vs, rfl, hbl, _, hcell, hr⟩ := HL5.out.at' hx
            obtain ⟨rfl, hps, hpi⟩ := hr
            have c0 := hcell 0 _ rfl
            have c1 := hcell 1 _ rfl
            rw [Nat.add_zero] at c0
            have HPk := Lib.hid (HP.out k p hx)
            have HNk := Lib.hid (HNm.out k p hx)
            clear hx hcell
            generalize p.name = y at *
            generalize p.sort = sr at *
            obtain ⟨hz5, x0, x1, x2, y1, y2, y3, y4, y5⟩ := HX5.out
            go_wp2_with fail
            have BA := Lib.hid ((Below.refl wr.heap.size wr).alloc (Nat.le_refl _) (.cells #[.string y, .int .i64 sr] 110))
            have z6 : wr.heap.size < (wr.alloc (.cells #[.string y, .int .i64 sr] 110)).heap.size := by simp
            have q0 : (wr.alloc (.cells #[.string y, .int .i64 sr] 110)).cell? ⟨wr.heap.size, 0, none⟩ = some (.string y) := by rw [World.cell?_alloc_mark]; rfl
            have q1 : (wr.alloc (.cells #[.string y, .int .i64 sr] 110)).cell? ⟨wr.heap.size, 1, none⟩ = some (.int .i64 sr) := by rw [World.cell?_alloc_mark]; rfl
            generalize wr.alloc (.cells #[.string y, .int .i64 sr] 110) = w6 at *
            have B6 := Lib.hid (B5.out.trans (BA.out.mono B5.out.size))
            have B46 := Lib.hid (B45.out.trans (BA.out.mono B45.out.size))
            have HX6 := Lib.hid (HX5.out.on BA.out)
            clear HX5 x0 x1 x2 y1 y2 y3 y4 y5 c0 c1 hz5
            have hm := Lx.rmay_any y w6 (by omega)
            generalize Lx.mayB (Lx.bs y) = bmay at *
            cases bmay with
            | false =>
              have HR := Lib.hid (show mb = false by rw [HE.out]; exact HPx.out k hlt (by rw [HPk.out]; rfl))
              refine hm.mono ?_
              rintro e w7 ⟨rfl, rfl⟩
              go_wp2_with fail
              go_ret
              exact ⟨ret_bool HR.out.symm, B6.out⟩
            | true =>
              refine hm.mono ?_
              rintro e w7 ⟨rfl, rfl⟩
              have hm := Lx.rreserved_any y w6
              go_wp2_with fail
              generalize Lx.resB (Lx.bs y) = brs at *
              cases brs with
              | true =>
                have HR := Lib.hid (show mb = false by rw [HE.out]; exact HPx.out k hlt (by rw [HPk.out]; rfl))
                refine hm.mono ?_
                rintro e w7 ⟨rfl, rfl⟩
                go_wp2_with fail
                go_ret
                exact ⟨ret_bool HR.out.symm, B6.out⟩
              | false =>
                replace HPk := Lib.hid (show pb k = (thereB l.length sr && !hasB (List.take k ns) y) from HPk.out)
                refine hm.mono ?_
                rintro e w7 ⟨rfl, rfl⟩
                have hcall := HTh.out sr hpi w6 B6.out
                obtain ⟨hz6, x0, x1, x2, y1, y2, y3, y4, y5⟩ := HX6.out
                go_wp2_with fail
                clear x0 x1 x2 y1 y2 y3 y4 y5
                cases ht : thereB l.length sr with
                | false =>
                  have HR := Lib.hid (show mb = false by rw [HE.out]; exact HPx.out k hlt (by rw [HPk.out, ht]; rfl))
                  rw [ht] at hcall
                  clear ht
                  refine hcall.mono ?_
                  rintro e w7 ⟨rfl, hb⟩
                  have B7 := Lib.hid (B6.out.trans (hb.mono B6.out.size))
                  clear hb
                  go_wp2_with fail
                  go_ret
                  exact ⟨ret_bool HR.out.symm, B7.out⟩
                | true =>
                  replace HPk := Lib.hid (show pb k = !hasB (List.take k ns) y by rw [HPk.out, ht]; rfl)
                  rw [ht] at hcall
                  clear ht
                  refine hcall.mono ?_
                  rintro e w7 ⟨rfl, hb⟩
                  have B7 := Lib.hid (B6.out.trans (hb.mono B6.out.size))
                  have B47 := Lib.hid (B46.out.trans (hb.mono B46.out.size))
                  have HX7 := Lib.hid (HX6.out.on hb)
                  have r0 := ((bcell hb).1 wr.heap.size 0 z6).trans q0
                  have z7 : wr.heap.size < w7.heap.size := by have := hb.size; omega
                  clear hb q0 q1 hcall HX6 hz6 z6
                  go_wp2_with fail
                  generalize wr.heap.size = bp at r0 z7 ⊢
                  go_loopw [7] (fun v wv => ∃ j : Nat, j ≤ k ∧ v = .int .i64 j ∧ hasB (ns.take j) y = false ∧ Below w7.heap.size w7 wv) (fun v _ => k - (intOf v).toNat)
                  case atStart => exact ⟨0, by omega, rfl, rfl, Below.refl _ _⟩
                  case round =>
                    obtain ⟨j, hj, rfl, hno, hb⟩ := hrel
                    have HNo := Lib.hid hno
                    have HB := Lib.hid hb
                    clear hno
                    by_cases hjl : j < k
                    · have hjl2 : (j : Int) < (k : Int) := by omega
                      have hxj := List.getElem?_eq_getElem (show j < ps.length by omega)
                      generalize ps[j] = pj at hxj
                      have HL8 := Lib.hid (HLp.out wr (B7.out.trans (hb.mono B7.out.size)))
                      obtain ⟨b', o', vs', hbo, hbl', _, hcell, hr⟩ := HL8.out.at' hxj
                      have hbo1 : b' = b ∧ o' = o := by simp at hbo; exact ⟨hbo.1.symm, hbo.2.symm⟩
                      obtain ⟨rfl, rfl⟩ := hbo1
                      obtain ⟨rfl, _, _⟩ := hr
                      have d0 := hcell 0 _ rfl
                      rw [Nat.add_zero] at d0
                      have HNj := Lib.hid (HNm.out j pj hxj)
                      clear hxj hcell
                      generalize pj.name = yj at *
                      obtain ⟨hz8, x0, x1, x2, y1, y2, y3, y4, y5⟩ := HX7.out.on hb
                      have s0 := ((bcell hb).1 bp 0 z7).trans r0
                      clear hb
                      by_cases he : yj = y
                      · have HR := Lib.hid (show mb = false by rw [HE.out]; exact HPx.out k hlt (by rw [HPk.out, take_has HNj.out hjl he]; rfl))
                        subst he
                        go_wp2_with fail
                        go_region
                        all_goals go_wp2_with fail
                        go_ret
                        have B9 := B7.out.trans (HB.out.mono B7.out.size)
                        exact ⟨ret_bool HR.out.symm, ⟨B9.os, B9.tape, B9.output, B9.size, B9.block⟩⟩
                      · have he1 := text_ne he
                        have HQ := Lib.hid (find_step HNj.out HNo.out he)
                        go_wp2_with fail
                        go_region
                        all_goals go_wp2_with fail
                        go_roundw
                        case rel => exact ⟨j + 1, by omega, by go_num, HQ.out, ⟨HB.out.os, HB.out.tape, HB.out.output, HB.out.size, HB.out.block⟩⟩
                        case measure => simp [intOf]; omega
                    · obtain rfl : j = k := by omega
                      have HR := Lib.hid (show pt (j + 1) = true by rw [HPs.out, HO.out, HPk.out, HNo.out]; rfl)
                      have B9 := Lib.hid (B47.out.trans (HB.out.mono B47.out.size))
                      clear hb
                      go_wp2_with fail
                      go_roundw
                      case rel => exact ⟨j + 1, by omega, by go_num, HR.out, B9.out⟩
                      case measure => simp [intOf]; omega
          · obtain rfl : k = ps.length := by omega
            have HR := Lib.hid (HE.out.trans HO.out)
            obtain ⟨hz5, x0, x1, x2, y1, y2, y3, y4, y5⟩ := HX5.out
            go_wp2_with fail
            go_ret
            exact ⟨ret_bool HR.out.symm, B5.out⟩
end Go.Proofs.YtfcmpfaonpnbaaaGreatDoor.Sg
/- What a signature's check tells. No condition. -/
namespace Go.Proofs.YtfcmpfaonpnbaaaGreatDoor.Sg
open Go.RowKit Go.Proofs.YtfcmpfaonpnbaaaGreatDoor.Dt

/-- whether all of the first k may be -/
def allTo (p : Nat → Bool) (k : Nat) : Bool := (List.range k).all p
theorem allTo_zero (p : Nat → Bool) : allTo p 0 = true := rfl
theorem allTo_succ (p : Nat → Bool) (k : Nat) : allTo p (k + 1) = (allTo p k && p k) := by unfold allTo; rw [List.range_succ, List.all_append]; simp
theorem allTo_stop {p : Nat → Bool} {k n : Nat} (hk : k < n) (h : p k = false) : allTo p n = false := by
  unfold allTo
  rw [List.all_eq_false]
  exact ⟨k, List.mem_range.2 hk, by rw [h]; simp⟩
def sortOk (l : List ByteArray) (i : Nat) : Bool := match l[i]? with
  | none => true
  | some s => usableB (Lx.bs s) && !hasB (allSorts (l.take i)) s
def funOk (g : Sig) (i : Nat) : Bool := match g.funs[i]? with
  | none => true
  | some f => usableB (Lx.bs f.name) && !(hasB ((g.funs.map Fun4.name).take i) f.name || coreB (Lx.bs f.name)) && funB g.sorts.length f
def macOk (g : Sig) (i : Nat) : Bool := match g.macros[i]? with
  | none => true
  | some m => usableB (Lx.bs m.name) && !(hasB (g.funs.map Fun4.name) m.name || hasB ((g.macros.map Macro.name).take i) m.name || coreB (Lx.bs m.name)) && macroB g.sorts.length m
/-- whether a signature may be -/
def checkB (g : Sig) : Bool :=
  (decide (g.sorts.length ≤ 4) && decide (g.funs.length ≤ 12) && decide (g.macros.length ≤ 12)) && (allTo (sortOk g.sorts) g.sorts.length && allTo (funOk g) g.funs.length && allTo (macOk g) g.macros.length)
def checkE (g : Sig) : Int := if checkB g then 0 else 2
theorem checkE_true {g : Sig} (h : checkB g = true) : checkE g = 0 := by unfold checkE; rw [h]; rfl
theorem checkE_false {g : Sig} (h : checkB g = false) : checkE g = 2 := by unfold checkE; rw [h]; rfl
/-- a name is free among those that are there so far -/
theorem free_sort {l : List ByteArray} {i : Nat} {s : ByteArray} (h : l[i]? = some s) : (freeE ⟨l.take i, [], []⟩ s true = 0) ↔ sortOk l i = true := by
  unfold freeE sortOk
  rw [h]
  cases hu : usableB (Lx.bs s) <;> cases hh : hasB (allSorts (l.take i)) s <;> simp [hu, hh]
theorem free_fun {g : Sig} {i : Nat} {f : Fun4} (h : g.funs[i]? = some f) : funOk g i = (decide (freeE ⟨g.sorts, g.funs.take i, []⟩ f.name false = 0) && funB g.sorts.length f) := by
  unfold freeE funOk
  rw [h]
  simp only [List.map_take, List.map_nil]
  cases hu : usableB (Lx.bs f.name) <;> cases hh : hasB ((g.funs.map Fun4.name).take i) f.name <;> cases hc : coreB (Lx.bs f.name) <;> simp [hasB]
theorem free_macro {g : Sig} {i : Nat} {m : Macro} (h : g.macros[i]? = some m) : macOk g i = (decide (freeE ⟨g.sorts, g.funs, g.macros.take i⟩ m.name false = 0) && macroB g.sorts.length m) := by
  unfold freeE macOk
  rw [h]
  simp only [List.map_take]
  cases hu : usableB (Lx.bs m.name) <;> cases hh : hasB (g.funs.map Fun4.name) m.name <;> cases hk : hasB ((g.macros.map Macro.name).take i) m.name <;> cases hc : coreB (Lx.bs m.name) <;> simp
end Go.Proofs.YtfcmpfaonpnbaaaGreatDoor.Sg
/- The document's Check: what stands at the head of a round. -/
namespace Go.Proofs.YtfcmpfaonpnbaaaGreatDoor.Sg
open Go.RowKit Go.Proofs.YtfcmpfaonpnbaaaGreatDoor.Dt

/-- what stands in memory at a round's head -/
structure RC (g : Sig) (w : World) (u0 u1 u2 : Value) (wr : World) (v1 v2 v3 : Value) (k1 k2 k3 : Nat) : Prop where
  keep : Below w.heap.size w wr
  g0 : wr.cell? ⟨w.heap.size, 0, none⟩ = some u0
  g1 : wr.cell? ⟨w.heap.size, 1, none⟩ = some u1
  g2 : wr.cell? ⟨w.heap.size, 2, none⟩ = some u2
  ob : wr.heap[w.heap.size + 1]? = some (.cells #[v1, v2, v3] 26 (0, 0))
  r1 : Grows 1 StrR 9 w (w.heap.size + 2) wr v1 (g.sorts.take k1)
  r2 : Grows 6 FunR 72 w (w.heap.size + 2) wr v2 (g.funs.take k2)
  r3 : Grows 6 MacroR 53 w (w.heap.size + 2) wr v3 (g.macros.take k3)
  d12 : ∀ k, v1.ownBlock = some k → v2.ownBlock ≠ some k
  d13 : ∀ k, v1.ownBlock = some k → v3.ownBlock ≠ some k
  d23 : ∀ k, v2.ownBlock = some k → v3.ownBlock ≠ some k
section
variable {g : Sig} {w wr w' : World} {u0 u1 u2 v1 v2 v3 : Value} {k1 k2 k3 : Nat}
theorem RC.lt (h : RC g w u0 u1 u2 wr v1 v2 v3 k1 k2 k3) : w.heap.size + 1 < wr.heap.size := lt_of_block h.ob
theorem RC.below (h : RC g w u0 u1 u2 wr v1 v2 v3 k1 k2 k3) (hb : Below wr.heap.size wr w') : RC g w u0 u1 u2 w' v1 v2 v3 k1 k2 k3 := by
  have l := h.lt
  have e := fun o => (bcell hb).1 w.heap.size o (by omega)
  exact ⟨h.keep.trans (hb.mono h.keep.size), (e 0).trans h.g0, (e 1).trans h.g1, (e 2).trans h.g2, (hb.block _ l).trans h.ob, h.r1.below hb, h.r2.below hb, h.r3.below hb, h.d12, h.d13, h.d23⟩
theorem RC.drew (h : RC g w u0 u1 u2 wr v1 v2 v3 k1 k2 k3) : RC g w u0 u1 u2 wr.drew v1 v2 v3 k1 k2 k3 := h.below (Below.refl _ _).drew
theorem RC.alloc (h : RC g w u0 u1 u2 wr v1 v2 v3 k1 k2 k3) (o : Obj) : RC g w u0 u1 u2 (wr.alloc o) v1 v2 v3 k1 k2 k3 := h.below ((Below.refl _ _).alloc (Nat.le_refl _) o)
theorem RC.o (h : RC g w u0 u1 u2 wr v1 v2 v3 k1 k2 k3) : wr.cell? ⟨w.heap.size + 1, 0, none⟩ = some v1 ∧ wr.cell? ⟨w.heap.size + 1, 1, none⟩ = some v2 ∧ wr.cell? ⟨w.heap.size + 1, 2, none⟩ = some v3 ∧ ∀ j, wr.frozen? ⟨w.heap.size + 1, j, none⟩ = false :=
  ⟨by rw [cell_of_cells h.ob]; rfl, by rw [cell_of_cells h.ob]; rfl, by rw [cell_of_cells h.ob]; rfl, fun j => frozen_of_cells h.ob j⟩
theorem take_len {α : Type} {l : List α} {k : Nat} (h : k ≤ l.length) : (l.take k).length = k := by rw [List.length_take]; omega
theorem RC.shape (h : RC g w u0 u1 u2 wr v1 v2 v3 k1 k2 k3) (h1 : k1 ≤ g.sorts.length) (h2 : k2 ≤ g.funs.length) (h3 : k3 ≤ g.macros.length) :
    (∃ A c, v1 = .slice A k1 c ∧ k1 ≤ c ∧ c ≤ maxLen) ∧ (∃ A c, v2 = .slice A k2 c ∧ k2 ≤ c ∧ c ≤ maxLen) ∧ (∃ A c, v3 = .slice A k3 c ∧ k3 ≤ c ∧ c ≤ maxLen) := by
  have a := h.r1.shape
  have b := h.r2.shape
  have c := h.r3.shape
  rw [take_len h1] at a
  rw [take_len h2] at b
  rw [take_len h3] at c
  exact ⟨a, b, c⟩
theorem RC.sig {A1 A2 A3 : Option Addr} {c1 c2 c3 : Nat} (h : RC g w u0 u1 u2 wr (.slice A1 k1 c1) (.slice A2 k2 c2) (.slice A3 k3 c3) k1 k2 k3) (h1 : k1 ≤ g.sorts.length) (h2 : k2 ≤ g.funs.length) (h3 : k3 ≤ g.macros.length) :
    SigAt wr A1 c1 A2 c2 A3 c3 ⟨g.sorts.take k1, g.funs.take k2, g.macros.take k3⟩ := by
  obtain ⟨⟨a, b, e1, p1, q1⟩, ⟨a', b', e2, p2, q2⟩, ⟨a'', b'', e3, p3, q3⟩⟩ := h.shape h1 h2 h3
  simp only [Value.slice.injEq] at e1 e2 e3
  have r1 := h.r1
  have r2 := h.r2
  have r3 := h.r3
  have t1 := take_len h1
  have t2 := take_len h2
  have t3 := take_len h3
  have x1 : Value.slice A1 k1 c1 = .slice A1 (g.sorts.take k1).length c1 := by rw [t1]
  have x2 : Value.slice A2 k2 c2 = .slice A2 (g.funs.take k2).length c2 := by rw [t2]
  have x3 : Value.slice A3 k3 c3 = .slice A3 (g.macros.take k3).length c3 := by rw [t3]
  rw [x1] at r1
  rw [x2] at r2
  rw [x3] at r3
  exact ⟨r1.lies StrR.lasts h.keep, r2.lies FunR.lasts h.keep, r3.lies MacroR.lasts h.keep, by rw [t1]; omega, by rw [t2]; omega, by rw [t3]; omega, by omega, by omega, by omega⟩
theorem shape_of_owns {w : World} {B n s : Nat} {t : TypeId} {v : Value} {xs : List Value} (h : w.ownsRow B t s v n xs) : ∃ A c, v = .slice A n c := by
  rcases h.2 with ⟨rfl, rfl⟩ | ⟨g, cap, cur, rfl, _⟩
  · exact ⟨none, 0, rfl⟩
  · exact ⟨_, cap, rfl⟩
/-- what a growth and a store leave alone -/
theorem RC.frame {v v' : Value} {j : Nat} (h : RC g w u0 u1 u2 wr v1 v2 v3 k1 k2 k3) (hg : wr.grownBy w' v.ownBlock) (hv : ∀ k, v.ownBlock = some k → w.heap.size + 2 ≤ k) :
    Below w.heap.size w (w'.setCell ⟨w.heap.size + 1, j, none⟩ v') ∧ (w'.setCell ⟨w.heap.size + 1, j, none⟩ v').cell? ⟨w.heap.size, 0, none⟩ = some u0 ∧ (w'.setCell ⟨w.heap.size + 1, j, none⟩ v').cell? ⟨w.heap.size, 1, none⟩ = some u1 ∧ (w'.setCell ⟨w.heap.size + 1, j, none⟩ v').cell? ⟨w.heap.size, 2, none⟩ = some u2 ∧
      (w'.setCell ⟨w.heap.size + 1, j, none⟩ v').heap[w.heap.size + 1]? = some (.cells ((#[v1, v2, v3] : Array Value).setIfInBounds j v') 26 (0, 0)) := by
  have l := h.lt
  have hbk : ∀ k, k < w.heap.size + 2 → some k ≠ v.ownBlock := fun k hk e => by have := hv k e.symm; omega
  have hgb : (w'.setCell ⟨w.heap.size + 1, j, none⟩ v').heap[w.heap.size]? = wr.heap[w.heap.size]? := (Below.heap_setCell w' ⟨w.heap.size + 1, j, none⟩ v' w.heap.size (by simp)).trans (hg.block _ (by omega) (hbk _ (by omega)))
  have e := fun o => World.cell?_of_block (w := wr) (w' := w'.setCell ⟨w.heap.size + 1, j, none⟩ v') (a := ⟨w.heap.size, o, none⟩) hgb
  refine ⟨?_, (e 0).trans h.g0, (e 1).trans h.g1, (e 2).trans h.g2, ?_⟩
  · exact (h.keep.grown hg h.keep.size (fun k hk => by have := hv k hk; omega)).setCell (by simp) _
  · have := (hg.block _ l (hbk _ (by omega))).trans h.ob
    simp [World.setCell, Array.getElem?_modify, this]
theorem RC.grown {v : Value} (h : RC g w u0 u1 u2 wr v1 v2 v3 k1 k2 k3) (hg : wr.grownBy w' v.ownBlock) (hv : ∀ k, v.ownBlock = some k → w.heap.size + 2 ≤ k) :
    w'.cell? ⟨w.heap.size + 1, 0, none⟩ = some v1 ∧ w'.cell? ⟨w.heap.size + 1, 1, none⟩ = some v2 ∧ w'.cell? ⟨w.heap.size + 1, 2, none⟩ = some v3 ∧ ∀ j, w'.frozen? ⟨w.heap.size + 1, j, none⟩ = false := by
  have e := (hg.block _ h.lt (fun e => by have := hv _ e.symm; omega)).trans h.ob
  exact ⟨by rw [cell_of_cells e]; rfl, by rw [cell_of_cells e]; rfl, by rw [cell_of_cells e]; rfl, fun j => frozen_of_cells e j⟩
/-- the 1 row has grown -/
theorem RC.push1 {x : ByteArray} {vals vs : List Value} {v' : Value} (h : RC g w u0 u1 u2 wr v1 v2 v3 k1 k2 k3) (hk : k1 ≤ g.sorts.length) (hx : g.sorts[k1]? = some x) (hl : vals.length = k1 * 1)
    (hr : ∀ i x, (g.sorts.take k1)[i]? = some x → ∃ vs : List Value, vs.length = 1 ∧ StrR w vs x ∧ ∀ j u, vs[j]? = some u → vals[i * 1 + j]? = some u)
    (ho : w'.ownsRow (w.heap.size + 2) 9 1 v' (k1 + 1) (vals ++ vs)) (hg : wr.grownBy w' v1.ownBlock) (hat : v'.ownBlock = v1.ownBlock ∨ v'.ownBlock = some wr.heap.size) (hR : StrR w vs x) (hvs : vs.length = 1) :
    RC g w u0 u1 u2 (w'.setCell ⟨w.heap.size + 1, 0, none⟩ v') v' v2 v3 (k1 + 1) k2 k3 := by
  obtain ⟨f1, f2, f3, f4, f5⟩ := h.frame (j := 0) (v' := v') hg (fun k hk => (h.r1.lt k hk).1)
  have t := take_len hk
  have e : g.sorts.take (k1 + 1) = g.sorts.take k1 ++ [x] := by rw [List.take_add_one, hx]; rfl
  have n2 : v2.ownBlock = none ∨ v2.ownBlock ≠ v1.ownBlock := by cases hb : v2.ownBlock with | none => exact .inl rfl | some k => exact .inr (fun e => h.d12 k e.symm hb)
  have n3 : v3.ownBlock = none ∨ v3.ownBlock ≠ v1.ownBlock := by cases hb : v3.ownBlock with | none => exact .inl rfl | some k => exact .inr (fun e => h.d13 k e.symm hb)
  refine ⟨f1, f2, f3, f4, f5, by rw [e]; exact (Grows.push (xs := g.sorts.take k1) (by rw [t]; exact hl) hr (by rw [t]; exact ho) hR hvs).setCell _ (by simp), (h.r2.kept hg n2).setCell _ (by simp), (h.r3.kept hg n3).setCell _ (by simp), ?_, ?_, ?_⟩
  · intro k hk he
    rcases hat with q | q
    · exact h.d12 k (q.symm.trans hk) he
    · have := (h.r2.lt k he).2
      rw [q] at hk; simp at hk; omega
  · intro k hk he
    rcases hat with q | q
    · exact h.d13 k (q.symm.trans hk) he
    · have := (h.r3.lt k he).2
      rw [q] at hk; simp at hk; omega
  · exact h.d23
/-- the 2 row has grown -/
theorem RC.push2 {x : Fun4} {vals vs : List Value} {v' : Value} (h : RC g w u0 u1 u2 wr v1 v2 v3 k1 k2 k3) (hk : k2 ≤ g.funs.length) (hx : g.funs[k2]? = some x) (hl : vals.length = k2 * 6)
    (hr : ∀ i x, (g.funs.take k2)[i]? = some x → ∃ vs : List Value, vs.length = 6 ∧ FunR w vs x ∧ ∀ j u, vs[j]? = some u → vals[i * 6 + j]? = some u)
    (ho : w'.ownsRow (w.heap.size + 2) 72 6 v' (k2 + 1) (vals ++ vs)) (hg : wr.grownBy w' v2.ownBlock) (hat : v'.ownBlock = v2.ownBlock ∨ v'.ownBlock = some wr.heap.size) (hR : FunR w vs x) (hvs : vs.length = 6) :
    RC g w u0 u1 u2 (w'.setCell ⟨w.heap.size + 1, 1, none⟩ v') v1 v' v3 k1 (k2 + 1) k3 := by
  obtain ⟨f1, f2, f3, f4, f5⟩ := h.frame (j := 1) (v' := v') hg (fun k hk => (h.r2.lt k hk).1)
  have t := take_len hk
  have e : g.funs.take (k2 + 1) = g.funs.take k2 ++ [x] := by rw [List.take_add_one, hx]; rfl
  have n1 : v1.ownBlock = none ∨ v1.ownBlock ≠ v2.ownBlock := by cases hb : v1.ownBlock with | none => exact .inl rfl | some k => exact .inr (fun e => h.d12 k hb e.symm)
  have n3 : v3.ownBlock = none ∨ v3.ownBlock ≠ v2.ownBlock := by cases hb : v3.ownBlock with | none => exact .inl rfl | some k => exact .inr (fun e => h.d23 k e.symm hb)
  refine ⟨f1, f2, f3, f4, f5, (h.r1.kept hg n1).setCell _ (by simp), by rw [e]; exact (Grows.push (xs := g.funs.take k2) (by rw [t]; exact hl) hr (by rw [t]; exact ho) hR hvs).setCell _ (by simp), (h.r3.kept hg n3).setCell _ (by simp), ?_, ?_, ?_⟩
  · intro k hk he
    rcases hat with q | q
    · exact h.d12 k hk (q.symm.trans he)
    · have := (h.r1.lt k hk).2
      rw [q] at he; simp at he; omega
  · exact h.d13
  · intro k hk he
    rcases hat with q | q
    · exact h.d23 k (q.symm.trans hk) he
    · have := (h.r3.lt k he).2
      rw [q] at hk; simp at hk; omega
/-- the 3 row has grown -/
theorem RC.push3 {x : Macro} {vals vs : List Value} {v' : Value} (h : RC g w u0 u1 u2 wr v1 v2 v3 k1 k2 k3) (hk : k3 ≤ g.macros.length) (hx : g.macros[k3]? = some x) (hl : vals.length = k3 * 6)
    (hr : ∀ i x, (g.macros.take k3)[i]? = some x → ∃ vs : List Value, vs.length = 6 ∧ MacroR w vs x ∧ ∀ j u, vs[j]? = some u → vals[i * 6 + j]? = some u)
    (ho : w'.ownsRow (w.heap.size + 2) 53 6 v' (k3 + 1) (vals ++ vs)) (hg : wr.grownBy w' v3.ownBlock) (hat : v'.ownBlock = v3.ownBlock ∨ v'.ownBlock = some wr.heap.size) (hR : MacroR w vs x) (hvs : vs.length = 6) :
    RC g w u0 u1 u2 (w'.setCell ⟨w.heap.size + 1, 2, none⟩ v') v1 v2 v' k1 k2 (k3 + 1) := by
  obtain ⟨f1, f2, f3, f4, f5⟩ := h.frame (j := 2) (v' := v') hg (fun k hk => (h.r3.lt k hk).1)
  have t := take_len hk
  have e : g.macros.take (k3 + 1) = g.macros.take k3 ++ [x] := by rw [List.take_add_one, hx]; rfl
  have n1 : v1.ownBlock = none ∨ v1.ownBlock ≠ v3.ownBlock := by cases hb : v1.ownBlock with | none => exact .inl rfl | some k => exact .inr (fun e => h.d13 k hb e.symm)
  have n2 : v2.ownBlock = none ∨ v2.ownBlock ≠ v3.ownBlock := by cases hb : v2.ownBlock with | none => exact .inl rfl | some k => exact .inr (fun e => h.d23 k hb e.symm)
  refine ⟨f1, f2, f3, f4, f5, (h.r1.kept hg n1).setCell _ (by simp), (h.r2.kept hg n2).setCell _ (by simp), by rw [e]; exact (Grows.push (xs := g.macros.take k3) (by rw [t]; exact hl) hr (by rw [t]; exact ho) hR hvs).setCell _ (by simp), ?_, ?_, ?_⟩
  · exact h.d12
  · intro k hk he
    rcases hat with q | q
    · exact h.d13 k hk (q.symm.trans he)
    · have := (h.r1.lt k hk).2
      rw [q] at he; simp at he; omega
  · intro k hk he
    rcases hat with q | q
    · exact h.d23 k hk (q.symm.trans he)
    · have := (h.r2.lt k hk).2
      rw [q] at he; simp at he; omega
end
end Go.Proofs.YtfcmpfaonpnbaaaGreatDoor.Sg
/- The statements' own bounds: what is too great to be asked. -/
namespace Go.Proofs.YtfcmpfaonpnbaaaGreatDoor.Gr
open Go.RowKit Go.Proofs.YtfcmpfaonpnbaaaGreatDoor.Dt Go.Proofs.YtfcmpfaonpnbaaaGreatDoor.Sg

def SomeInt (e : Ending) : Prop := ∃ r : Int, I64 r ∧ e = .returned (.int .i64 r)
theorem someInt {r : Int} (h : I64 r) : SomeInt (.returned (.int .i64 r)) := ⟨r, h, rfl⟩
set_option maxRecDepth 100000 in
set_option maxHeartbeats 3200000 in
theorem size_any : ∀ (n : Nat) (x : Sexp), SizeOf.sizeOf x < n → ∀ (w : World) (A : Option Addr) (c : Nat) (most : Int), SexpR w [.int .i8 x.kind, .string x.text, .slice A x.l.length c] x →
    Calls Tryz.prog 21 #[.agg #[.int .i8 x.kind, .string x.text, .slice A x.l.length c], .int .i64 most] w fun e w' => SomeInt e ∧ Below w.heap.size w w' := by
  intro n
  induction n with
  | zero => intro x hx; omega
  | succ n ih =>
    intro x hx w A c most hr
    have IH := Lib.hid ih
    obtain ⟨A0, c0, e0, hl, hc, hcm, ht, hlb, _⟩ := hr.open'
    simp only [List.cons.injEq, Value.slice.injEq, and_true, true_and] at e0
    obtain ⟨rfl, rfl⟩ := e0
    have HL := Lib.hid hl
    have HX := Lib.hid hx
    have HM := Lib.hid (fun y (hy : y ∈ x.l) => Sexp.mem_lt hy)
    obtain ⟨g0, g1, g2⟩ := sig_cells w (.int .i8 x.kind) (.string x.text) (.slice A x.l.length c) 51
    have B0 := Lib.hid ((Below.refl w.heap.size w).alloc (Nat.le_refl _) (.cells #[.int .i8 x.kind, .string x.text, .slice A x.l.length c] 51))
    have hz : w.heap.size < (w.alloc (.cells #[.int .i8 x.kind, .string x.text, .slice A x.l.length c] 51)).heap.size := by simp
    have hlb2 : (x.l.length : Int) ≤ 140737488351232 := by omega
    generalize x.l = l at *
    generalize x.text = t at *
    generalize x.kind = kd at *
    clear hl hr hx ih hlb
    have HC := Lib.hid (fun W (hW : Below (w.alloc (.cells #[.int .i8 kd, .string t, .slice A l.length c] 51)).heap.size (w.alloc (.cells #[.int .i8 kd, .string t, .slice A l.length c] 51)) W) => ((bcell hW).1 w.heap.size 2 hz).trans g2)
    have HT := Lib.hid (show I64 (1 + (t.size : Int)) from ⟨by omega, by omega⟩)
    have H5 := Lib.hid (show I64 5001 from ⟨by omega, by omega⟩)
    clear g0 g2 hz
    have HZ : 0 < 1 := by omega
    by_cases ht5 : (5000 : Int) < (t.size : Int)
    all_goals
      go_enter Tryz.func21, Tryz.ntmps21
      go_wp2_with fail
      generalize w.alloc (.cells #[.int .i8 kd, .string t, .slice A l.length c] 51) = w0 at *
      go_loopw [5, 6] (fun v i wr => ∃ (k : Nat) (z : Int), k ≤ l.length ∧ i = .int .i64 k ∧ v = .int .i64 z ∧ I64 z ∧ Below w0.heap.size w0 wr) (fun _ i _ => l.length - (intOf i).toNat)
      case atStart => first | exact ⟨0, _, by omega, rfl, rfl, HT.out, Below.refl _ _⟩ | exact ⟨0, _, by omega, rfl, rfl, H5.out, Below.refl _ _⟩
      case round =>
        obtain ⟨k, z, hk, rfl, rfl, hzi, hb⟩ := hrel
        have HZi := Lib.hid hzi
        have HB := Lib.hid hb
        have q2 := HC.out wr hb
        have HBw := Lib.hid (B0.out.trans (hb.mono B0.out.size))
        clear hzi hb
        by_cases hlt : k < l.length
        · have hlt2 : (k : Int) < (l.length : Int) := by omega
          by_cases hzm : z < most
          · have hzm' := decide_eq_true hzm
            have hy := List.getElem?_eq_getElem hlt
            have hym := List.getElem_mem hlt
            generalize l[k] = y at hy hym
            obtain ⟨b, o, A', c', rfl, hbl, e0, e1, e2, hr⟩ := sexp_cells (HL.out.on SexpR.lasts HBw.out) hy
            have HY := Lib.hid (fun W m (hW : Below wr.heap.size wr W) => IH.out y (by have h1 := HM.out y hym; have h2 := HX.out; omega) W A' c' m (SexpR.lasts _ _ _ _ hW hr))
            clear hr hy hym
            go_wp2_with fail
            refine (HY.out _ _ (Below.refl _ _)).mono ?_
            rintro e w2 ⟨⟨r, hri, rfl⟩, hb2⟩
            have HB2 := Lib.hid (HB.out.trans (hb2.mono HB.out.size))
            have HI2 := Lib.hid (I64_wrap (z + r))
            clear hb2
            go_wp2_with fail
            go_roundw
            case rel => exact ⟨k + 1, _, by omega, by go_num, rfl, HI2.out, HB2.out⟩
            case measure => simp [intOf]; omega
          · have hzm' := decide_eq_false hzm
            have HS := Lib.hid (someInt HZi.out)
            go_wp2_with fail
            go_ret
            exact ⟨HS.out, HBw.out⟩
        · have hge : decide ((k : Int) < (l.length : Int)) = false := decide_eq_false (by omega)
          have HS := Lib.hid (someInt HZi.out)
          go_wp2_with fail
          go_ret
          exact ⟨HS.out, HBw.out⟩

def GreatPost (P : Prop) (e : Ending) : Prop := ∃ b : Bool, e = .returned (.bool b) ∧ (b = false → P)
theorem great_yes {P : Prop} : GreatPost P (.returned (.bool true)) := ⟨true, rfl, fun h => by cases h⟩
theorem great_no {P : Prop} (b : Bool) (h : P) : GreatPost P (.returned (.bool b)) := ⟨b, rfl, fun _ => h⟩
theorem macro_cells {w W : World} {A : Option Addr} {l : List Macro} (h : Lies 6 MacroR w A l) (hb : Below w.heap.size w W) {k : Nat} {m : Macro} (hm : l[k]? = some m) :
    ∃ b o Ap cp Ab cb, A = some ⟨b, o, none⟩ ∧ W.cell? ⟨b, o + k * 6 + 1, none⟩ = some (.slice Ap m.params.length cp) ∧ W.cell? ⟨b, o + k * 6 + 3, none⟩ = some (.int .i8 m.body.kind) ∧ W.cell? ⟨b, o + k * 6 + 3 + 1, none⟩ = some (.string m.body.text) ∧ W.cell? ⟨b, o + k * 6 + 3 + 2, none⟩ = some (.slice Ab m.body.l.length cb) ∧
      SexpR W [.int .i8 m.body.kind, .string m.body.text, .slice Ab m.body.l.length cb] m.body ∧ m.params.length ≤ maxLen := by
  obtain ⟨b, o, vs, rfl, hbl, _, hcell, Ap, cp, bv, rfl, hsx, _, hpc, hcm, _⟩ := h.at' hm
  obtain ⟨Ab, cb, rfl, _⟩ := hsx.open'
  have e := fun j u (hu : _) => ((bcell hb).1 b (o + k * 6 + j) hbl).trans (hcell j u hu)
  exact ⟨b, o, Ap, cp, Ab, cb, rfl, e 1 _ rfl, e 3 _ rfl, e 4 _ rfl, e 5 _ rfl, SexpR.lasts _ _ _ _ hb hsx, by omega⟩
def Small (g : Sig) : Prop := g.sorts.length ≤ 20 ∧ g.funs.length ≤ 40 ∧ g.macros.length ≤ 40
set_option maxRecDepth 100000 in
set_option maxHeartbeats 3200000 in
theorem great4_any {w : World} {A1 A2 A3 : Option Addr} {c1 c2 c3 : Nat} {g : Sig} (h : SigAt w A1 c1 A2 c2 A3 c3 g) :
    Calls Tryz.prog 4 #[.agg #[.slice A1 g.sorts.length c1, .slice A2 g.funs.length c2, .slice A3 g.macros.length c3]] w fun e w' => GreatPost (Small g) e ∧ Below w.heap.size w w' := by
  have HMc := Lib.hid (fun W (hW : Below w.heap.size w W) k m (hm : g.macros[k]? = some m) => macro_cells h.macros hW hm)
  obtain ⟨g0, g1, g2⟩ := sig_cells w (.slice A1 g.sorts.length c1) (.slice A2 g.funs.length c2) (.slice A3 g.macros.length c3) 26
  have B0 := Lib.hid ((Below.refl w.heap.size w).alloc (Nat.le_refl _) (.cells #[.slice A1 g.sorts.length c1, .slice A2 g.funs.length c2, .slice A3 g.macros.length c3] 26))
  have hz : w.heap.size < (w.alloc (.cells #[.slice A1 g.sorts.length c1, .slice A2 g.funs.length c2, .slice A3 g.macros.length c3] 26)).heap.size := by simp
  have HSm := Lib.hid (show (g.sorts.length ≤ 20 ∧ g.funs.length ≤ 40 ∧ g.macros.length ≤ 40) → Small g from id)
  have HY := Lib.hid (great_yes (P := Small g))
  have HN := Lib.hid (fun b (h : Small g) => great_no (P := Small g) b h)
  clear h
  generalize hn1 : g.sorts.length = n1 at *
  generalize hn2 : g.funs.length = n2 at *
  generalize hn3 : g.macros.length = n3 at *
  by_cases h1 : (20 : Int) < (n1 : Int)
  · have h1' := decide_eq_true h1
    go_enter Tryz.func4, Tryz.ntmps4
    go_wp2_with fail
    go_ret
    exact ⟨HY.out, B0.out⟩
  · have h1' := decide_eq_false h1
    by_cases h2 : (40 : Int) < (n2 : Int)
    · have h2' := decide_eq_true h2
      go_enter Tryz.func4, Tryz.ntmps4
      go_wp2_with fail
      go_ret
      exact ⟨HY.out, B0.out⟩
    · have h2' := decide_eq_false h2
      by_cases h3 : (40 : Int) < (n3 : Int)
      · have h3' := decide_eq_true h3
        go_enter Tryz.func4, Tryz.ntmps4
        go_wp2_with fail
        go_ret
        exact ⟨HY.out, B0.out⟩
      · have h3' := decide_eq_false h3
        have HS := Lib.hid (HSm.out ⟨by omega, by omega, by omega⟩)
        go_enter Tryz.func4, Tryz.ntmps4
        go_wp2_with fail
        generalize w.alloc (.cells #[.slice A1 n1 c1, .slice A2 n2 c2, .slice A3 n3 c3] 26) = w1 at *
        have HC := Lib.hid (fun W (hW : Below w1.heap.size w1 W) => ((bcell hW).1 w.heap.size 2 hz).trans g2)
        clear g0 g1 g2 hz
        go_loopw [3, 4] (fun v i wr => ∃ (k : Nat) (z : Int), k ≤ n3 ∧ i = .int .i64 k ∧ v = .int .i64 z ∧ I64 z ∧ Below w1.heap.size w1 wr) (fun _ i _ => n3 - (intOf i).toNat)
        case atStart => exact ⟨0, 0, by omega, rfl, rfl, ⟨by omega, by omega⟩, Below.refl _ _⟩
        case round =>
          obtain ⟨k, z, hk, rfl, rfl, hzi, hb⟩ := hrel
          have HZi := Lib.hid hzi
          have HB := Lib.hid hb
          have q2 := HC.out wr hb
          have HBw := Lib.hid (B0.out.trans (hb.mono B0.out.size))
          clear hzi hb
          by_cases hlt : k < n3
          · have hlt2 : (k : Int) < (n3 : Int) := by omega
            obtain ⟨m, hm⟩ : ∃ m, g.macros[k]? = some m := ⟨_, List.getElem?_eq_getElem (by omega)⟩
            obtain ⟨b, o, Ap, cp, Ab, cb, rfl, m1, m3, m4, m5, hsx, hpl⟩ := HMc.out wr HBw.out k m hm
            have HSz := Lib.hid (size_any _ m.body (Nat.lt_succ_self _) wr Ab cb 4000 hsx)
            have HMd := Lib.hid (fun W hW => HMc.out W hW k m hm)
            have hpl2 : (m.params.length : Int) ≤ 9223372036854775807 := by unfold maxLen at hpl; omega
            clear hm hsx hpl
            go_wp2_with fail
            refine HSz.out.mono ?_
            rintro e w2 ⟨⟨r, hri, rfl⟩, hb2⟩
            have HB2 := Lib.hid (HB.out.trans (hb2.mono HB.out.size))
            have HBw2 := Lib.hid (HBw.out.trans (hb2.mono HBw.out.size))
            have HI2 := Lib.hid (I64_wrap (z + r))
            obtain ⟨b', o', Ap', cp', _, _, hA, m1', _, _, _, _, _⟩ := HMd.out w2 HBw2.out
            have hA2 : b' = b ∧ o' = o := by simp at hA; exact ⟨hA.1.symm, hA.2.symm⟩
            obtain ⟨rfl, rfl⟩ := hA2
            have q3 := HC.out w2 HB2.out
            clear hb2 m1 m3 m4 m5 hA q2 hri
            by_cases hp : (20 : Int) < (m.params.length : Int)
            · have hp' := decide_eq_true hp
              go_wp2_with fail
              go_ret
              exact ⟨HY.out, HBw2.out⟩
            · have hp' := decide_eq_false hp
              go_wp2_with fail
              go_roundw
              case rel => exact ⟨k + 1, _, by omega, by go_num, rfl, HI2.out, HB2.out⟩
              case measure => simp [intOf]; omega
          · obtain rfl : k = n3 := by omega
            have HR := Lib.hid (HN.out (decide (6000 < z)) HS.out)
            go_wp2_with fail
            all_goals
              go_ret
              exact ⟨HN.out _ HS.out, HBw.out⟩
end Go.Proofs.YtfcmpfaonpnbaaaGreatDoor.Gr
