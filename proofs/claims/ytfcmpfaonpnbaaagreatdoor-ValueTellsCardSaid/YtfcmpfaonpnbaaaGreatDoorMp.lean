import Derived.Test.YtfcmpfaonpnbaaaGreatDoorMo
import Derived.Test.YtfcmpfaonpnbaaaGreatDoorMi
/- merged by wip/merge.py from: VRefText VRefIs -/
/- The document's value: a value's text. -/
namespace Go.Proofs.YtfcmpfaonpnbaaaGreatDoor.Vl
open Go.RowKit Go.Proofs.YtfcmpfaonpnbaaaGreatDoor.Dt Go.Proofs.YtfcmpfaonpnbaaaGreatDoor.Sg

set_option maxRecDepth 100000 in
set_option maxHeartbeats 3200000 in
theorem rvtext_any {w : World} {A1 A2 A3 : Option Addr} {c1 n2 c2 n3 c3 : Nat} {l : List ByteArray} (h : Lies 1 StrR w A1 l) (hn : (l.length : Int) ≤ 1000000) (s v : Int) (hs : I64 s) (hv : I64 v) :
    Calls Tryz.prog 12 #[.agg #[.slice A1 l.length c1, .slice A2 n2 c2, .slice A3 n3 c3], .int .i64 s, .int .i64 v] w fun e w' => e = .returned (.tuple #[.string (txtS l s v), .int .i64 (txtE l.length s v)]) ∧ Below w.heap.size w w' := by
  have HB1 := Lib.hid ((Below.refl w.heap.size w).alloc (Nat.le_refl _) (.cells #[.slice A1 l.length c1, .slice A2 n2 c2, .slice A3 n3 c3] 26))
  have HT := Lib.hid (fun W => rtext_any v hv W)
  have HMy := Lib.hid (fun W => rmay_any v W)
  have HL := Lib.hid (fun W (hW : Below w.heap.size w W) => h.on StrR.lasts hW)
  have HOut := Lib.hid (txt_out (l := l) (s := s) (v := v))
  have HBad := Lib.hid (txt_bad (l := l) (s := s) (v := v))
  have HOk := Lib.hid (txt_ok (l := l) (s := s) (v := v))
  obtain ⟨g0, g1, g2⟩ := sig_cells w (.slice A1 l.length c1) (.slice A2 n2 c2) (.slice A3 n3 c3) 26
  have hz1 : w.heap.size < (w.alloc (.cells #[.slice A1 l.length c1, .slice A2 n2 c2, .slice A3 n3 c3] 26)).heap.size := by simp
  clear h
  by_cases h0 : s < 0
  · have h0' := decide_eq_true h0
    have HR := Lib.hid (HOut.out (by omega))
    go_enter Tryz.func12, Tryz.ntmps12
    go_wp2_with fail
    go_ret2
    exact ⟨str_int HR.out.2.symm HR.out.1.symm, HB1.out⟩
  · have h0' := decide_eq_false h0
    by_cases h1 : 2 + (l.length : Int) ≤ s
    · have h1' := decide_eq_true h1
      have HR := Lib.hid (HOut.out (by omega))
      go_enter Tryz.func12, Tryz.ntmps12
      go_wp2_with fail
      go_ret2
      exact ⟨str_int HR.out.2.symm HR.out.1.symm, HB1.out⟩
    · have h1' := decide_eq_false h1
      have hin : 0 ≤ s ∧ s < 2 + (l.length : Int) := by omega
      go_enter Tryz.func12, Tryz.ntmps12
      go_wp2_with fail
      generalize w.alloc (.cells #[.slice A1 l.length c1, .slice A2 n2 c2, .slice A3 n3 c3] 26) = w1 at *
      refine (HMy.out w1).mono ?_
      rintro e w1' ⟨rfl, rfl⟩
      cases hm : mayB v with
      | false =>
        have HR := Lib.hid (HBad.out hin (.inl hm))
        clear hm
        go_wp2_with fail
        go_ret2
        exact ⟨str_int HR.out.2.symm HR.out.1.symm, HB1.out⟩
      | true =>
        have HM := Lib.hid hm
        have HVI := Lib.hid hv
        clear hm
        by_cases hs1 : s = 1
        · have HR := Lib.hid (HOk.out hin HM.out (by omega) (by omega))
          subst hs1
          go_wp2_with fail
          refine (HT.out w1).mono ?_
          rintro e w2 ⟨rfl, hb2⟩
          have HB2 := Lib.hid (HB1.out.trans (hb2.mono HB1.out.size))
          have q0 := ((bcell hb2).1 w.heap.size 0 hz1).trans g0
          have htz : ((textL v).toArray.size : Int) ≤ 100 := by have := textL_len HVI.out; simp; omega
          generalize htl : (textL v).toArray = tl at *
          have HTl := Lib.hid htl
          clear hb2 g0 htl
          go_wp2_with fail
          go_ret2
          exact ⟨str_int (by rw [HR.out.2]; simp) HR.out.1.symm, HB2.out⟩
        · have hs1' : (s == 1) = false := beq_eq_false_iff_ne.2 hs1
          have hs1'' : (s != 1) = true := by rw [bne, hs1']; rfl
          by_cases hv0 : v < 0
          · have hv0' := decide_eq_true hv0
            have HR := Lib.hid (HBad.out hin (.inr (.inl ⟨hs1, hv0⟩)))
            go_wp2_with fail
            go_ret2
            exact ⟨str_int HR.out.2.symm HR.out.1.symm, HB1.out⟩
          · have hv0' := decide_eq_false hv0
            by_cases hs0 : s = 0
            · subst hs0
              by_cases hv1 : 1 < v
              · have hv1' := decide_eq_true hv1
                have HR := Lib.hid (HBad.out hin (.inr (.inr ⟨rfl, hv1⟩)))
                go_wp2_with fail
                go_ret2
                exact ⟨str_int HR.out.2.symm HR.out.1.symm, HB1.out⟩
              · have hv1' := decide_eq_false hv1
                have HR := Lib.hid (HOk.out hin HM.out (by omega) (by omega))
                by_cases hvz : v = 0
                · have hvz' : (v == 0) = true := by simp [hvz]
                  replace HR := Lib.hid (show txtE l.length 0 v = 0 ∧ txtS l 0 v = falseS by rw [HR.out.1, HR.out.2, if_pos rfl, if_pos hvz]; exact ⟨rfl, rfl⟩)
                  clear hvz
                  go_wp2_with fail
                  refine (HT.out w1).mono ?_
                  rintro e w2 ⟨rfl, hb2⟩
                  have HB2 := Lib.hid (HB1.out.trans (hb2.mono HB1.out.size))
                  have q0 := ((bcell hb2).1 w.heap.size 0 hz1).trans g0
                  have htz : ((textL v).toArray.size : Int) ≤ 100 := by have := textL_len HVI.out; simp; omega
                  generalize htl : (textL v).toArray = tl at *
                  have HTl := Lib.hid htl
                  clear hb2 g0 htl
                  go_wp2_with fail
                  go_ret2
                  exact ⟨str_int HR.out.2.symm HR.out.1.symm, HB2.out⟩
                · have hvz' : (v == 0) = false := beq_eq_false_iff_ne.2 hvz
                  replace HR := Lib.hid (show txtE l.length 0 v = 0 ∧ txtS l 0 v = trueS by rw [HR.out.1, HR.out.2, if_pos rfl, if_neg hvz]; exact ⟨rfl, rfl⟩)
                  clear hvz
                  go_wp2_with fail
                  refine (HT.out w1).mono ?_
                  rintro e w2 ⟨rfl, hb2⟩
                  have HB2 := Lib.hid (HB1.out.trans (hb2.mono HB1.out.size))
                  have q0 := ((bcell hb2).1 w.heap.size 0 hz1).trans g0
                  have htz : ((textL v).toArray.size : Int) ≤ 100 := by have := textL_len HVI.out; simp; omega
                  generalize htl : (textL v).toArray = tl at *
                  have HTl := Lib.hid htl
                  clear hb2 g0 htl
                  go_wp2_with fail
                  go_ret2
                  exact ⟨str_int HR.out.2.symm HR.out.1.symm, HB2.out⟩
            · have hs0' : (s == 0) = false := beq_eq_false_iff_ne.2 hs0
              obtain ⟨i, rfl⟩ : ∃ i : Nat, s = (i : Int) + 2 := ⟨s.toNat - 2, by omega⟩
              have hil : i < l.length := by omega
              obtain ⟨nm, hnm⟩ : ∃ nm, l[i]? = some nm := ⟨_, List.getElem?_eq_getElem hil⟩
              have HR := Lib.hid (HOk.out hin HM.out (by omega) (by omega))
              have HO := Lib.hid (show l.getD (((i : Int) + 2) - 2).toNat { data := #[] } = nm by rw [show (((i : Int) + 2) - 2).toNat = i by omega, List.getD_eq_getElem?_getD, hnm]; rfl)
              have HN := Lib.hid hnm
              clear hnm
              go_wp2_with fail
              refine (HT.out w1).mono ?_
              rintro e w2 ⟨rfl, hb2⟩
              have HB2 := Lib.hid (HB1.out.trans (hb2.mono HB1.out.size))
              have q0 := ((bcell hb2).1 w.heap.size 0 hz1).trans g0
              have htz : ((textL v).toArray.size : Int) ≤ 100 := by have := textL_len HVI.out; simp; omega
              generalize htl : (textL v).toArray = tl at *
              have HTl := Lib.hid htl
              clear hb2 g0 htl
              obtain ⟨b, o, vs, rfl, hbl, _, hcell, hr⟩ := (HL.out w2 HB2.out).at' HN.out
              obtain ⟨rfl, hsz⟩ := hr
              have c0 := hcell 0 _ rfl
              rw [Nat.mul_one, Nat.add_zero] at c0
              clear hcell
              have hql := quote_len nm
              have HQ := Lib.hid (fun W => Lx.rquote_any nm W hsz)
              have HFin := Lib.hid (show ∀ q, Lx.quoteS nm = q → asS ++ ⟨tl⟩ ++ { data := #[32] } ++ q ++ { data := #[41] } = ownT v nm from fun q hq => by unfold ownT; rw [HTl.out, hq])
              generalize hqq : Lx.quoteS nm = q at *
              have HFq := Lib.hid (HFin.out q rfl)
              go_wp2_with fail
              refine (HQ.out w2).mono ?_
              rintro e w3 ⟨rfl, rfl⟩
              go_wp2_with fail
              go_ret2
              exact ⟨str_int (by rw [HR.out.2, if_neg (by omega), if_neg (by omega), HO.out]; exact HFq.out) HR.out.1.symm, HB2.out⟩
end Go.Proofs.YtfcmpfaonpnbaaaGreatDoor.Vl
/- The document's value: whether something is one of a sort's values. -/
namespace Go.Proofs.YtfcmpfaonpnbaaaGreatDoor.Vl
open Go.RowKit Go.Proofs.YtfcmpfaonpnbaaaGreatDoor.Dt Go.Proofs.YtfcmpfaonpnbaaaGreatDoor.Sg

set_option maxRecDepth 100000 in
set_option maxHeartbeats 3200000 in
theorem ris_any {w : World} {A1 A2 A3 B1 B2 : Option Addr} {n1 c1 n2 c2 n3 c3 d1 m d2 : Nat} {sz : List Int} (hl : Lies 1 (IntR .i64) w B1 sz) (hb : (sz.length : Int) ≤ 1000000) (hn : (n1 : Int) ≤ 140737488351232) (s v : Int) (_ : I64 v) :
    Calls Tryz.prog 15 #[.agg #[.slice A1 n1 c1, .slice A2 n2 c2, .slice A3 n3 c3], .agg #[.slice B1 sz.length d1, .slice B2 m d2], .int .i64 s, .int .i64 v] w fun e w' => e = .returned (.bool (isB n1 sz s v)) ∧ Below w.heap.size w w' := by
  have HB2 := Lib.hid (((Below.refl w.heap.size w).alloc (Nat.le_refl _) (.cells #[.slice A1 n1 c1, .slice A2 n2 c2, .slice A3 n3 c3] 26)).alloc (by simp) (.cells #[.slice B1 sz.length d1, .slice B2 m d2] 30))
  have HL2 := Lib.hid (hl.on (IntR.lasts _) HB2.out)
  obtain ⟨g0, g1, g2⟩ := sig_cells w (.slice A1 n1 c1) (.slice A2 n2 c2) (.slice A3 n3 c3) 26
  have e0 : ((w.alloc (.cells #[.slice A1 n1 c1, .slice A2 n2 c2, .slice A3 n3 c3] 26)).alloc (.cells #[.slice B1 sz.length d1, .slice B2 m d2] 30)).cell? ⟨w.heap.size, 0, none⟩ = some (.slice A1 n1 c1) :=
    ((bcell ((Below.refl _ _).alloc (Nat.le_refl _) _)).1 w.heap.size 0 (by simp)).trans g0
  have e1 : ((w.alloc (.cells #[.slice A1 n1 c1, .slice A2 n2 c2, .slice A3 n3 c3] 26)).alloc (.cells #[.slice B1 sz.length d1, .slice B2 m d2] 30)).cell? ⟨w.heap.size + 1, 0, none⟩ = some (.slice B1 sz.length d1) :=
    box2_cell w _ _ _ 0
  have HMv := Lib.hid (fun W => rmay_any v W)
  clear g0 g1 g2 hl
  go_enter Tryz.func15, Tryz.ntmps15
  by_cases hq : sz.length = n1
  · subst hq
    by_cases hs0 : 0 ≤ s
    · have hs0' := decide_eq_false (show ¬ s < 0 by omega)
      by_cases hs1 : s < 2 + (sz.length : Int)
      · have hs1' := decide_eq_false (show ¬ 2 + (sz.length : Int) ≤ s by omega)
        by_cases ha : s = 0
        · subst ha
          have HR := Lib.hid (isB_bool (sz := sz) (v := v))
          have HV0 := Lib.hid (show bitB v = (v == 0 || v == 1) by unfold bitB; rw [Bool.eq_iff_iff]; simp)
          by_cases v0 : v = 0
          · have v0' : (v == 0) = true := by simp [v0]
            replace HR := Lib.hid (show isB sz.length sz 0 v = true by rw [HR.out, HV0.out, v0']; rfl)
            go_wp2_with fail
            go_ret
            exact ⟨ret_bool HR.out.symm, HB2.out⟩
          · have v0' : (v == 0) = false := beq_eq_false_iff_ne.2 v0
            replace HR := Lib.hid (show isB sz.length sz 0 v = (v == 1) by rw [HR.out, HV0.out, v0']; rfl)
            clear v0
            go_wp2_with fail
            go_ret
            exact ⟨ret_bool HR.out.symm, HB2.out⟩
        · have ha' : (s == 0) = false := beq_eq_false_iff_ne.2 ha
          by_cases ha1 : s = 1
          · subst ha1
            have HR := Lib.hid (isB_int (sz := sz) (v := v))
            go_wp2_with fail
            refine (HMv.out _).mono ?_
            rintro e w4 ⟨rfl, rfl⟩
            go_wp2_with fail
            go_ret
            exact ⟨ret_bool HR.out.symm, HB2.out⟩
          · obtain ⟨i, rfl⟩ : ∃ i : Nat, s = ((2 + i : Nat) : Int) := ⟨s.toNat - 2, by omega⟩
            have ha1' : (((2 + i : Nat) : Int) == 1) = false := beq_eq_false_iff_ne.2 ha1
            have hil : i < sz.length := by omega
            have hil' : (i : Int) < (sz.length : Int) := by omega
            have hx := List.getElem?_eq_getElem hil
            generalize sz[i] = n at hx
            have HR := Lib.hid (show isB sz.length sz (2 + (i : Int)) v = ownB n v from isB_own (v := v) hx)
            obtain ⟨b, o, vs, rfl, hbl, hlen, hcl, hvv⟩ := HL2.out.at' hx
            have c0 := hcl 0 (.int .i64 n) (by rw [hvv.1]; rfl)
            rw [Nat.mul_one, Nat.add_zero] at c0
            have hsub : ((2 + i : Nat) : Int) - 2 = (i : Int) := by omega
            have HO := Lib.hid (show ownB n v = (decide (0 ≤ v) && decide (v < n)) by unfold ownB; rw [Bool.eq_iff_iff]; simp)
            clear hlen hcl hvv hx hbl
            by_cases hv0 : 0 ≤ v
            · go_wp2_with fail
              go_ret
              exact ⟨ret_bool (by have h2 : isB sz.length sz ((2 + i : Nat) : Int) v = ownB n v := HR.out; (first | rw [HR.out, HO.out] | rw [h2, HO.out]); simp [hv0]), HB2.out⟩
            · have hv0' := decide_eq_false hv0
              go_wp2_with fail
              go_ret
              exact ⟨ret_bool (by have h2 : isB sz.length sz ((2 + i : Nat) : Int) v = ownB n v := HR.out; (first | rw [HR.out, HO.out] | rw [h2, HO.out]); simp; omega), HB2.out⟩
      · have hs1' : 2 + (sz.length : Int) ≤ s := by omega
        have HR := Lib.hid (isB_out (n := sz.length) (sz := sz) (s := s) (v := v) (by omega))
        go_wp2_with fail
        go_ret
        exact ⟨ret_bool HR.out.symm, HB2.out⟩
    · have hs0' : s < 0 := by omega
      have HR := Lib.hid (isB_out (n := sz.length) (sz := sz) (s := s) (v := v) (by omega))
      go_wp2_with fail
      go_ret
      exact ⟨ret_bool HR.out.symm, HB2.out⟩
  · have HR := Lib.hid (isB_len (sz := sz) (s := s) (v := v) hq)
    have hq' : ((sz.length : Int) != (n1 : Int)) = true := by simp; omega
    go_wp2_with fail
    go_ret
    exact ⟨ret_bool HR.out.symm, HB2.out⟩
end Go.Proofs.YtfcmpfaonpnbaaaGreatDoor.Vl
