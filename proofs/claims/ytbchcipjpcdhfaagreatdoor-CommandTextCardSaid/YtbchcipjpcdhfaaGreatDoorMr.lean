import Derived.Test.YtbchcipjpcdhfaaGreatDoorMq
import Derived.Test.YtbchcipjpcdhfaaGreatDoorMa
import Derived.Test.YtbchcipjpcdhfaaGreatDoorMi
import Derived.Test.YtbchcipjpcdhfaaGreatDoorMj
import Derived.Test.YtbchcipjpcdhfaaGreatDoorMg
import Derived.Deep.RegionWith
/- merged by wip/merge.py from: Law8Wakes NumRParse R8Parts -/
/- What the document says of push, shown of the program. -/
namespace Go.Proofs.YtbchcipjpcdhfaaGreatDoor.Cm
open Go.RowKit Go.Proofs.YtbchcipjpcdhfaaGreatDoor.Dt

theorem lsym_any (s : ByteArray) (w : World) : Calls Tryz.prog 22 #[.string s] w fun e w' => e = .returned (.agg #[.int .i8 0, .string s, .slice none 0 0]) ∧ Below w.heap.size w w' := by
  go_enter Tryz.func22, Tryz.ntmps22
  go_wp2_with fail
  exact sexp_ret Tryz.results22 (blk_new _ _) rfl rfl ⟨rfl, (Below.refl _ _).alloc (Nat.le_refl _) _⟩
theorem parse_lit {W : World} {A : Option Addr} {c : Nat} {xs : List Sexp} {o : Option Cmd} (hl : Lies 3 SexpR W A xs) (h1 : xs.length ≤ c) (h2 : c ≤ maxLen) (h3 : xs.length * 48 ≤ 140737488351232) (ho : cmdO (listX xs) = o) :
    Calls Tryz.prog 8 #[.agg #[.int .i8 3, .string { data := #[] }, .slice A xs.length c]] W (CmdRes W o 30) := by
  have := parse_cmd_any (x := listX xs) (A := A) (c := c) (list_r hl h1 h2 h3)
  rw [ho] at this
  exact this
theorem lit_two (w : World) {x y : Sexp} {a b : Bit} {cs : Array Value} (hc : cs.toList = cells3 [a, b]) (h1 : BitR (w.alloc (.cells cs 25)) a) (h2 : BitR (w.alloc (.cells cs 25)) b) (e1 : a.1 = x) (e2 : b.1 = y) : Lies 3 SexpR (w.alloc (.cells cs 25)) (some ⟨w.heap.size, 0, none⟩) [x, y] := by
  subst e1 e2
  exact lit_lies (ys := [a, b]) (blk_new w _) hc (bits_two h1 h2)
theorem lit_one (w : World) {x : Sexp} {a : Bit} {cs : Array Value} (hc : cs.toList = cells3 [a]) (h1 : BitR (w.alloc (.cells cs 25)) a) (e1 : a.1 = x) : Lies 3 SexpR (w.alloc (.cells cs 25)) (some ⟨w.heap.size, 0, none⟩) [x] := by
  subst e1
  exact lit_lies (ys := [a]) (blk_new w _) hc (bits_one h1)
theorem push_res {w w' : World} {e : Ending} (h : CmdRes w (some cPush) 30 e w') : ∃ A1 c1 A2 c2 A3 c3 A4 c4, e = .returned (.tuple #[.agg #[.int .i8 6, .string { data := #[] }, .int .i64 1, .slice A1 0 c1, .slice A2 0 c2, .slice A3 0 c3, .string { data := #[] }, .slice A4 0 c4], .int .i64 0]) ∧ Below w.heap.size w w' := by
  obtain ⟨A1, c1, A2, c2, A3, c3, A4, c4, h1, _, h2⟩ := h
  exact ⟨A1, c1, A2, c2, A3, c3, A4, c4, h1, h2⟩
theorem push0_res {w w' : World} {e : Ending} (h : CmdRes w none 30 e w') : ∃ A1 c1 A2 c2 A3 c3 A4 c4, e = .returned (.tuple #[.agg #[.int .i8 0, .string { data := #[] }, .int .i64 0, .slice A1 0 c1, .slice A2 0 c2, .slice A3 0 c3, .string { data := #[] }, .slice A4 0 c4], .int .i64 30]) ∧ Below w.heap.size w w' := by
  obtain ⟨A1, c1, A2, c2, A3, c3, A4, c4, h1, _, h2⟩ := h
  exact ⟨A1, c1, A2, c2, A3, c3, A4, c4, h1, h2⟩
theorem cChk_at (w : World) : CmdAt w none 0 none 0 none 0 none 0 cChk :=
  ⟨.inl rfl, .inl rfl, .inl rfl, .inl rfl, Nat.le_refl _, Nat.le_refl _, Nat.le_refl _, Nat.le_refl _, Nat.zero_le _, Nat.zero_le _, Nat.zero_le _, Nat.zero_le _, Nat.zero_le _, (by decide : (Lit.int .i8 8).wf = true), (show I64 0 from ⟨by decide, by decide⟩), (by decide : ((noS.size : Nat) : Int) ≤ 140737488351232), (by decide : ((noS.size : Nat) : Int) ≤ 140737488351232)⟩
theorem chk_text (w : World) (ht : TabOk w) : Calls Tryz.prog 14 #[.agg #[.int .i8 8, .string { data := #[] }, .int .i64 0, .slice none 0 0, .slice none 0 0, .slice none 0 0, .string { data := #[] }, .slice none 0 0]] w fun e w' => e = .returned (.tuple #[.string { data := #[40, 99, 104, 101, 99, 107, 45, 115, 97, 116, 41] }, .int .i64 0]) ∧ Below w.heap.size w w' := by
  have h := ctext_any (cChk_at w) ⟨by decide, by decide, by decide, by decide⟩ ht (fun _ => by rw [textL_chk]; decide)
  rw [texte_chk, textb_chk] at h
  exact h
set_option maxRecDepth 100000 in
set_option maxHeartbeats 3200000 in
theorem wakes8_any (w : World) (ht : TabOk w) : Calls Tryz.prog 7 #[] w fun e w' => e = .returned (.bool true) ∧ Below w.heap.size w w' := by
  have HT := Lib.hid ht
  have HS := Lib.hid (fun W => lsym_any { data := #[112, 117, 115, 104] } W)
  clear ht
  go_enter Tryz.func7, Tryz.ntmps7
  go_wp2_with fail
  refine (HS.out _).mono ?_
  rintro e w1 ⟨rfl, hb1⟩
  have B1 := Lib.hid hb1
  have B2 := Lib.hid (B1.out.alloc B1.out.size (.cells #[.int .i8 0, .string { data := #[112, 117, 115, 104] }, .slice none 0 0, .int .i8 1, .string { data := #[49] }, .slice none 0 0] 25))
  have HP1 := Lib.hid ((parse_lit (c := 2) (lit_two w1 (x := symX sPush) (y := one1) (a := (symX sPush, none, 0)) (b := (one1, none, 0)) (cs := #[.int .i8 0, .string { data := #[112, 117, 115, 104] }, .slice none 0 0, .int .i8 1, .string { data := #[49] }, .slice none 0 0]) rfl (sym_r _ _ (by decide)) (leaf_r _ 1 _ (by decide) (by decide)) rfl rfl) (by decide) (by decide) (by decide) cmd_push).mono fun e w' h => push_res h)
  clear hb1
  go_wp2_with fail
  refine HP1.out.mono ?_
  rintro e w2 ⟨A1, c1, A2, c2, A3, c3, A4, c4, rfl, hb2⟩
  have N1 := Lib.hid (blk_new w2 (.cells #[.int .i8 6, .string { data := #[] }, .int .i64 1, .slice A1 0 c1, .slice A2 0 c2, .slice A3 0 c3, .string { data := #[] }, .slice A4 0 c4] 32))
  have B4 := Lib.hid ((B2.out.trans (hb2.mono B2.out.size)).alloc (Nat.le_trans B2.out.size hb2.size) (.cells #[.int .i8 6, .string { data := #[] }, .int .i64 1, .slice A1 0 c1, .slice A2 0 c2, .slice A3 0 c3, .string { data := #[] }, .slice A4 0 c4] 32))
  clear hb2 HP1
  go_upto_region 2 with fail
  generalize w2.alloc (.cells #[.int .i8 6, .string { data := #[] }, .int .i64 1, .slice A1 0 c1, .slice A2 0 c2, .slice A3 0 c3, .string { data := #[] }, .slice A4 0 c4] 32) = w3 at *
  go_wp2_with fail
  refine (HS.out _).mono ?_
  rintro e w4 ⟨rfl, hb4⟩
  have B5 := Lib.hid ((B4.out.trans (hb4.mono B4.out.size)).alloc (Nat.le_trans B4.out.size hb4.size) (.cells #[.int .i8 0, .string { data := #[112, 117, 115, 104] }, .slice none 0 0] 25))
  have N2 := Lib.hid ((Below.heap_alloc w4 (.cells #[.int .i8 0, .string { data := #[112, 117, 115, 104] }, .slice none 0 0] 25) _ (lt_of_block ((hb4.block _ (lt_of_block N1.out)).trans N1.out))).trans ((hb4.block _ (lt_of_block N1.out)).trans N1.out))
  have HP2 := Lib.hid ((parse_lit (c := 1) (lit_one w4 (x := symX sPush) (a := (symX sPush, none, 0)) (cs := #[.int .i8 0, .string { data := #[112, 117, 115, 104] }, .slice none 0 0]) rfl (sym_r _ _ (by decide)) rfl) (by decide) (by decide) (by decide) cmd_push0).mono fun e w' h => push0_res h)
  clear hb4
  go_wp2_with fail
  refine HP2.out.mono ?_
  rintro e w5 ⟨D1, d1, D2, d2, D3, d3, D4, d4, rfl, hb5⟩
  have B6 := Lib.hid ((B5.out.trans (hb5.mono B5.out.size)).alloc (Nat.le_trans B5.out.size hb5.size) (.cells #[.int .i8 0, .string { data := #[] }, .int .i64 0, .slice D1 0 d1, .slice D2 0 d2, .slice D3 0 d3, .string { data := #[] }, .slice D4 0 d4] 32))
  have N3 := Lib.hid ((Below.heap_alloc w5 (.cells #[.int .i8 0, .string { data := #[] }, .int .i64 0, .slice D1 0 d1, .slice D2 0 d2, .slice D3 0 d3, .string { data := #[] }, .slice D4 0 d4] 32) _ (lt_of_block ((hb5.block _ (lt_of_block N2.out)).trans N2.out))).trans ((hb5.block _ (lt_of_block N2.out)).trans N2.out))
  clear hb5 HP2
  go_upto_region 3 with fail
  generalize w5.alloc (.cells #[.int .i8 0, .string { data := #[] }, .int .i64 0, .slice D1 0 d1, .slice D2 0 d2, .slice D3 0 d3, .string { data := #[] }, .slice D4 0 d4] 32) = w6 at *
  have HTx := Lib.hid (chk_text w6 (HT.out.on B6.out))
  go_wp2_with fail
  refine HTx.out.mono ?_
  rintro e w7 ⟨rfl, hb7⟩
  have B7 := Lib.hid (B6.out.trans (hb7.mono B6.out.size))
  obtain ⟨n0, n1, n2, n3, n4, n5, n6, n7, nf⟩ := eight_cells ((hb7.block _ (lt_of_block N3.out)).trans N3.out)
  clear hb7
  go_wp2_with fail
  go_ret
  exact ⟨rfl, B7.out⟩
end Go.Proofs.YtbchcipjpcdhfaaGreatDoor.Cm
/- The document's Parse. -/
namespace Go.Proofs.YtbchcipjpcdhfaaGreatDoor
open Go.RowKit

theorem putAll_over (l : List UInt8) : ∀ p : Int × Bool, p.2 = true → (putAll p l).2 = true := by
  induction l with
  | nil => intro p h; exact h
  | cons c l ih =>
    intro p h
    have e : putAll p (c :: l) = putAll (putN p ((c.toNat : Int) % 16)) l := rfl
    rw [e]; apply ih; unfold putN; split <;> simp [h]
theorem put_stop {s : ByteArray} {k : Nat} {n : Int} (hk : k < s.data.size) (h : putAll (0, false) (s.data.toList.take k) = (n, false)) (hd : isDig s.data[k] = true) (hn : (4611686018427387904 - ((s.data[k].toNat : Int) - 48)) / 10 < n) (hN : isNum s.data.toList = true) :
    parseV s.data.toList = 0 ∧ parseE s.data.toList = 10 := by
  have hc : 48 ≤ (s.data[k].toNat : Int) ∧ (s.data[k].toNat : Int) ≤ 57 := by simpa [isDig] using hd
  refine parse_over hN ?_
  have e1 := putAll_snoc (0, false) (s.data.toList.take k) s.data[k]
  rw [← take_next hk, h] at e1
  have e2 : putN (n, false) ((s.data[k].toNat : Int) % 16) = (n, true) := by
    unfold putN; rw [if_pos]; show _ < n
    rw [show (s.data[k].toNat : Int) % 16 = (s.data[k].toNat : Int) - 48 by omega]; exact hn
  rw [e2] at e1
  have e3 : putAll (0, false) s.data.toList = putAll (putAll (0, false) (s.data.toList.take (k + 1))) (s.data.toList.drop (k + 1)) := by
    unfold putAll; rw [← List.foldl_append, List.take_append_drop]
  rw [e3, e1]
  exact putAll_over _ _ rfl
theorem put_go {s : ByteArray} {k : Nat} {n : Int} (hk : k < s.data.size) (h : putAll (0, false) (s.data.toList.take k) = (n, false)) (hd : isDig s.data[k] = true) (hn : ¬ (4611686018427387904 - ((s.data[k].toNat : Int) - 48)) / 10 < n) :
    putAll (0, false) (s.data.toList.take (k + 1)) = (n * 10 + ((s.data[k].toNat : Int) - 48), false) := by
  have hc : 48 ≤ (s.data[k].toNat : Int) ∧ (s.data[k].toNat : Int) ≤ 57 := by simpa [isDig] using hd
  have e1 := putAll_snoc (0, false) (s.data.toList.take k) s.data[k]
  rw [← take_next hk, h] at e1
  rw [e1]
  unfold putN
  rw [show (s.data[k].toNat : Int) % 16 = (s.data[k].toNat : Int) - 48 by omega, if_neg hn]

set_option maxHeartbeats 1600000 in
set_option maxRecDepth 100000 in
theorem rparse_loop (s : ByteArray) (hs : s.size ≤ 140737488351232) (w : World) (hne : s.toList.isEmpty = false) (hz : 1 < s.size → ∀ h : 0 < s.size, (((s[0]'h).toNat : Int) == 48) = false) :
    Calls Tryz.prog 85 #[.string s] w fun e w' => e = .returned (.tuple #[.int .i64 (parseV s.data.toList), .int .i64 (parseE s.data.toList)]) ∧ w = w' := by
  have hsz := size_pos_of hne
  have HN := Lib.hid (isNum_of hne hz)
  by_cases h1 : 1 < s.size
  all_goals (first | replace hz := hz h1 | clear hz)
  all_goals
    go_enter Tryz.func85, Tryz.ntmps85
    go_wp2_with fail
  all_goals
    go_loop [4] (fun i => ∃ k : Nat, k ≤ s.size ∧ i = .int .i64 k ∧ (s.data.toList.take k).all isDig = true) (fun i => s.size - (intOf i).toNat)
    case atStart => exact ⟨0, Nat.zero_le _, rfl, rfl⟩
    case round =>
      obtain ⟨k, hk, rfl, hp⟩ := hrel
      have HP := Lib.hid hp
      clear hp
      by_cases hlt : k < s.size
      · have HB := Lib.hid (fun hd => parse_bad (s := s) (k := k) hlt hd HN.out)
        have HT := Lib.hid (take_next (s := s) (k := k) hlt)
        by_cases h2 : isDig s.data[k] = true
        · have hc := isDig_iff.1 (show isDig (s[k]'hlt) = true from h2)
          obtain ⟨hc0, hc1⟩ := hc
          have H2 := Lib.hid h2
          clear h2
          go_wp2_with fail
          go_round
          case rel => exact ⟨k + 1, by omega, by go_num, by rw [HT.out, List.all_append, HP.out]; simp [H2.out]⟩
          case measure => simp [intOf]; omega
        · have hc := isDig_no.1 (show isDig (s[k]'hlt) = false from Bool.eq_false_iff.2 h2)
          have H2 := Lib.hid h2
          clear h2
          by_cases hc0 : (s[k].toNat : Int) < 48
          all_goals
            go_wp2_with fail
            go_ret2
            have h2 := HB.out (by simpa using H2.out)
            exact ⟨pair_int ⟨h2.1.symm, h2.2.symm⟩, rfl⟩
      · have he := parse_end hlt HP.out HN.out
        have HD := Lib.hid he.2
        have HA := Lib.hid (show ∀ j (hj : j < s.data.size), isDig s.data[j] = true from fun j hj => by
          have := HN.out.symm.trans he.2
          rw [List.all_eq_true] at this
          exact this _ (by simp))
        clear he
        go_wp2_with fail
        go_loop [5, 6] (fun t i => ∃ (j : Nat) (n : Int), j ≤ s.size ∧ i = .int .i64 j ∧ t = .int .i64 n ∧ putAll (0, false) (s.data.toList.take j) = (n, false)) (fun _ i => s.size - (intOf i).toNat)
        case atStart => exact ⟨0, 0, Nat.zero_le _, rfl, rfl, rfl⟩
        case round =>
          obtain ⟨j, n, hj, rfl, rfl, hr⟩ := hrel
          have hle := putAll_le (s.data.toList.take j) (by
            rw [List.all_eq_true]; intro x hx
            have := HN.out.symm.trans HD.out
            rw [List.all_eq_true] at this
            exact this x (List.mem_of_mem_take hx))
          rw [hr] at hle
          obtain ⟨hle0, hle1⟩ := hle
          have HR := Lib.hid hr
          clear hr
          by_cases hjt : j < s.size
          · have H2 := Lib.hid (HA.out j hjt)
            have hc := isDig_iff.1 (show isDig (s[j]'hjt) = true from HA.out j hjt)
            obtain ⟨hc0, hc1⟩ := hc
            have HS := Lib.hid (fun hn => put_stop hjt HR.out H2.out hn HD.out)
            have HG := Lib.hid (fun hn => put_go hjt HR.out H2.out hn)
            go_wp2_with fail
            · go_ret2
              have h2 := HS.out ‹_›
              exact ⟨pair_int ⟨h2.1.symm, h2.2.symm⟩, rfl⟩
            · go_round
              case rel => exact ⟨j + 1, _, by omega, by go_num, rfl, HG.out (Int.not_lt.2 (show n ≤ (4611686018427387904 - (((s[j]'hjt).toNat : Int) - 48)) / 10 by omega))⟩
              case measure => simp [intOf]; omega
          · have HF := Lib.hid (parse_fits HD.out)
            have HE := Lib.hid (show n = (putAll (0, false) s.data.toList).1 ∧ (putAll (0, false) s.data.toList).2 = false by
              have e : s.data.toList.take j = s.data.toList := List.take_of_length_le (by rw [Array.length_toList]; exact Nat.le_of_not_lt hjt)
              have := HR.out; rw [e] at this; rw [this]; exact ⟨rfl, rfl⟩)
            go_wp2_with fail
            go_ret2
            have h2 := HF.out HE.out.2
            exact ⟨pair_int ⟨by rw [h2.1]; exact HE.out.1, h2.2.symm⟩, rfl⟩

set_option maxHeartbeats 800000 in
theorem rparse_any (s : ByteArray) (hs : s.size ≤ 140737488351232) (w : World) :
    Calls Tryz.prog 85 #[.string s] w fun e w' => e = .returned (.tuple #[.int .i64 (parseV s.data.toList), .int .i64 (parseE s.data.toList)]) ∧ w = w' := by
  by_cases h0 : s.toList = []
  · have HX := Lib.hid (parse_none (Or.inl h0))
    go_enter Tryz.func85, Tryz.ntmps85
    go_wp2_with fail
    have hx := HX.out
    go_ret2
    exact ⟨pair_int ⟨hx.1.symm, hx.2.symm⟩, rfl⟩
  · have hne : s.toList.isEmpty = false := by cases h : s.toList <;> simp_all
    by_cases h1 : 1 < s.size
    · have hsz := size_pos_of hne
      cases hc : (((s[0]'hsz).toNat : Int) == 48) with
      | true =>
        have HX := Lib.hid (parse_none (Or.inr ⟨h1, hsz, hc⟩))
        go_enter Tryz.func85, Tryz.ntmps85
        go_wp2_with fail
        have hx := HX.out
        go_ret2
        exact ⟨pair_int ⟨hx.1.symm, hx.2.symm⟩, rfl⟩
      | false => exact rparse_loop s hs w hne (fun _ _ => hc)
    · exact rparse_loop s hs w hne (fun h => absurd h h1)
end Go.Proofs.YtbchcipjpcdhfaaGreatDoor
/- The document's reading of commands: isSym, small, bare, names, params. -/
namespace Go.Proofs.YtbchcipjpcdhfaaGreatDoor.Cm
open Go.RowKit Go.Proofs.YtbchcipjpcdhfaaGreatDoor.Dt

theorem rissym_any {w : World} (x : Sexp) (A : Option Addr) (c : Nat) : Calls Tryz.prog 59 #[agS x A c] w fun e w' => e = .returned (.bool (decide (x.kind = 0))) ∧ Below w.heap.size w w' := by
  have HB := Lib.hid ((Below.refl w.heap.size w).alloc (Nat.le_refl _) (.cells #[.int .i8 x.kind, .string x.text, .slice A x.l.length c] 25))
  obtain ⟨q0, q1, q2, _⟩ := box_cells w (.int .i8 x.kind) (.string x.text) (.slice A x.l.length c) 25
  have hk : (x.kind == 0) = decide (x.kind = 0) := rfl
  unfold agS
  go_enter Tryz.func59, Tryz.ntmps59
  go_wp2_with fail
  go_ret
  exact ⟨rfl, HB.out⟩
def SmallPost (x : Sexp) (m : Int) (e : Ending) : Prop := ∃ v : Int, I64 v ∧ e = .returned (.tuple #[.int .i64 v, .bool (smallN x m).isSome]) ∧ ∀ n, smallN x m = some n → v = n
set_option maxHeartbeats 1600000 in
theorem rsmall_any {w : World} (x : Sexp) (A : Option Addr) (c : Nat) (ht : (x.text.size : Int) ≤ 140737488351232) (m : Int) :
    Calls Tryz.prog 63 #[agS x A c, .int .i64 m] w fun e w' => SmallPost x m e ∧ Below w.heap.size w w' := by
  have HB := Lib.hid ((Below.refl w.heap.size w).alloc (Nat.le_refl _) (.cells #[.int .i8 x.kind, .string x.text, .slice A x.l.length c] 25))
  obtain ⟨q0, q1, q2, _⟩ := box_cells w (.int .i8 x.kind) (.string x.text) (.slice A x.l.length c) 25
  have HP := Lib.hid (fun W => rparse_any x.text (by omega) W)
  have HI := Lib.hid (show I64 (parseV (Lx.bs x.text)) from parseV_I64 _)
  unfold agS
  by_cases hk : x.kind = 1
  · have hk' : (x.kind == 1) = true := by simp [hk]
    have hk'' : (x.kind != 1) = false := by rw [bne, hk']; rfl
    by_cases he : parseE (Lx.bs x.text) = 0
    · have he' : (parseE (Lx.bs x.text) == 0) = true := by simp [he]
      by_cases hm : parseV (Lx.bs x.text) ≤ m
      · have hm' : decide (parseV (Lx.bs x.text) ≤ m) = true := decide_eq_true hm
        have HR := Lib.hid (show SmallPost x m (.returned (.tuple #[.int .i64 (parseV (Lx.bs x.text)), .bool true])) from by
          have e : smallN x m = some (parseV (Lx.bs x.text)) := by unfold smallN; rw [if_pos ⟨hk, he, hm⟩]
          exact ⟨_, HI.out, by rw [e]; rfl, fun n hn => by rw [e] at hn; exact Option.some.inj hn⟩)
        replace HP : Hid (∀ W, Calls Tryz.prog 85 #[.string x.text] W fun e w' => e = .returned (.tuple #[.int .i64 (parseV (Lx.bs x.text)), .int .i64 (parseE (Lx.bs x.text))]) ∧ W = w') := HP
        generalize parseV (Lx.bs x.text) = v at *
        generalize parseE (Lx.bs x.text) = E at *
        clear hk he hm
        go_enter Tryz.func63, Tryz.ntmps63
        go_wp2_with fail
        refine (HP.out _).mono ?_
        rintro e w1 ⟨rfl, rfl⟩
        go_wp2_with fail
        go_ret2
        exact ⟨HR.out, HB.out⟩
      · have hm' : decide (parseV (Lx.bs x.text) ≤ m) = false := decide_eq_false hm
        have HR := Lib.hid (show SmallPost x m (.returned (.tuple #[.int .i64 (parseV (Lx.bs x.text)), .bool false])) from by
          have e : smallN x m = none := by unfold smallN; rw [if_neg (fun h => hm h.2.2)]
          exact ⟨_, HI.out, by rw [e]; rfl, fun n hn => by rw [e] at hn; cases hn⟩)
        replace HP : Hid (∀ W, Calls Tryz.prog 85 #[.string x.text] W fun e w' => e = .returned (.tuple #[.int .i64 (parseV (Lx.bs x.text)), .int .i64 (parseE (Lx.bs x.text))]) ∧ W = w') := HP
        generalize parseV (Lx.bs x.text) = v at *
        generalize parseE (Lx.bs x.text) = E at *
        clear hk he hm
        go_enter Tryz.func63, Tryz.ntmps63
        go_wp2_with fail
        refine (HP.out _).mono ?_
        rintro e w1 ⟨rfl, rfl⟩
        go_wp2_with fail
        go_ret2
        exact ⟨HR.out, HB.out⟩
    · have he' : (parseE (Lx.bs x.text) == 0) = false := beq_eq_false_iff_ne.2 he
      have HR := Lib.hid (show SmallPost x m (.returned (.tuple #[.int .i64 (parseV (Lx.bs x.text)), .bool false])) from by
        have e : smallN x m = none := by unfold smallN; rw [if_neg (fun h => he h.2.1)]
        exact ⟨_, HI.out, by rw [e]; rfl, fun n hn => by rw [e] at hn; cases hn⟩)
      replace HP : Hid (∀ W, Calls Tryz.prog 85 #[.string x.text] W fun e w' => e = .returned (.tuple #[.int .i64 (parseV (Lx.bs x.text)), .int .i64 (parseE (Lx.bs x.text))]) ∧ W = w') := HP
      generalize parseV (Lx.bs x.text) = v at *
      generalize parseE (Lx.bs x.text) = E at *
      clear hk he
      go_enter Tryz.func63, Tryz.ntmps63
      go_wp2_with fail
      refine (HP.out _).mono ?_
      rintro e w1 ⟨rfl, rfl⟩
      go_wp2_with fail
      go_ret2
      exact ⟨HR.out, HB.out⟩
  · have hk' : (x.kind == 1) = false := beq_eq_false_iff_ne.2 hk
    have hk'' : (x.kind != 1) = true := by rw [bne, hk']; rfl
    have HR := Lib.hid (show SmallPost x m (.returned (.tuple #[.int .i64 0, .bool false])) from by
      have e : smallN x m = none := by unfold smallN; rw [if_neg (fun h => hk h.1)]
      exact ⟨0, ⟨by decide, by decide⟩, by rw [e]; rfl, fun n hn => by rw [e] at hn; cases hn⟩)
    clear hk
    go_enter Tryz.func63, Tryz.ntmps63
    go_wp2_with fail
    go_ret2
    exact ⟨HR.out, HB.out⟩
def bareK (h : ByteArray) : Option Int := if h = sCheck then some 8 else if h = sModel then some 9 else if h = sProof then some 11 else if h = sExit then some 12 else none
set_option maxHeartbeats 1600000 in
theorem rbare_any {w : World} (h : ByteArray) : Calls Tryz.prog 60 #[.string h] w fun e w' => e = .returned (.tuple #[.int .i8 ((bareK h).getD 0), .bool (bareK h).isSome]) ∧ w' = w := by
  have key : ∀ (o : Option Int), bareK h = o → (∀ l ∈ [[99, 104, 101, 99, 107, 45, 115, 97, 116], [103, 101, 116, 45, 109, 111, 100, 101, 108], [103, 101, 116, 45, 112, 114, 111, 111, 102], [101, 120, 105, 116]], ∃ b, (h.toList == l) = b) → True := fun _ _ _ => trivial
  clear key
  unfold bareK
  by_cases h1 : h = sCheck
  · have p1 : (h.toList == [99, 104, 101, 99, 107, 45, 115, 97, 116]) = true := tl_true h1
    rw [if_pos h1]
    clear h1
    go_enter Tryz.func60, Tryz.ntmps60
    go_wp2_with fail
    go_ret2
    exact ⟨rfl, rfl⟩
  have p1 : (h.toList == [99, 104, 101, 99, 107, 45, 115, 97, 116]) = false := tl_false h1
  rw [if_neg h1]
  by_cases h2 : h = sModel
  · have p2 : (h.toList == [103, 101, 116, 45, 109, 111, 100, 101, 108]) = true := tl_true h2
    rw [if_pos h2]
    clear h1 h2
    go_enter Tryz.func60, Tryz.ntmps60
    go_wp2_with fail
    go_ret2
    exact ⟨rfl, rfl⟩
  have p2 : (h.toList == [103, 101, 116, 45, 109, 111, 100, 101, 108]) = false := tl_false h2
  rw [if_neg h2]
  by_cases h3 : h = sProof
  · have p3 : (h.toList == [103, 101, 116, 45, 112, 114, 111, 111, 102]) = true := tl_true h3
    rw [if_pos h3]
    clear h1 h2 h3
    go_enter Tryz.func60, Tryz.ntmps60
    go_wp2_with fail
    go_ret2
    exact ⟨rfl, rfl⟩
  have p3 : (h.toList == [103, 101, 116, 45, 112, 114, 111, 111, 102]) = false := tl_false h3
  rw [if_neg h3]
  by_cases h4 : h = sExit
  · have p4 : (h.toList == [101, 120, 105, 116]) = true := tl_true h4
    rw [if_pos h4]
    clear h1 h2 h3 h4
    go_enter Tryz.func60, Tryz.ntmps60
    go_wp2_with fail
    go_ret2
    exact ⟨rfl, rfl⟩
  have p4 : (h.toList == [101, 120, 105, 116]) = false := tl_false h4
  rw [if_neg h4]
  clear h1 h2 h3 h4
  go_enter Tryz.func60, Tryz.ntmps60
  go_wp2_with fail
  go_ret2
  exact ⟨rfl, rfl⟩
/-- names, handed back -/
def RNames (w : World) (x : Sexp) (e : Ending) (w' : World) : Prop :=
  ∃ (l : List ByteArray) (A' : Option Addr) (c' : Nat), (e = .returned (.tuple #[.slice A' l.length c', .bool (namesN x).isSome]) ∧ l.length ≤ c' ∧ c' ≤ maxLen) ∧ NewLies 1 StrR w.heap.size w' A' l ∧ (∀ l', namesN x = some l' → l = l') ∧ Below w.heap.size w w'
theorem any_mem {f : Sexp → Bool} {l : List Sexp} {k : Nat} {y : Sexp} (h : l[k]? = some y) (hf : f y = true) : l.any f = true := List.any_eq_true.2 ⟨y, List.mem_of_getElem? h, hf⟩
set_option maxHeartbeats 3200000 in
theorem rnames_any {w : World} {x : Sexp} {A : Option Addr} {c : Nat} (hr : SexpR w [.int .i8 x.kind, .string x.text, .slice A x.l.length c] x) :
    Calls Tryz.prog 83 #[agS x A c] w (RNames w x) := by
  obtain ⟨_, _, e, hl, _, _, _, hlb, _⟩ := hr.open'
  simp only [List.cons.injEq, Value.slice.injEq, and_true, true_and] at e
  obtain ⟨rfl, rfl⟩ := e
  have HL := Lib.hid hl
  have HLen := Lib.hid (show x.l.length ≤ 4398046511104 by omega)
  have HB := Lib.hid ((Below.refl w.heap.size w).alloc (Nat.le_refl _) (.cells #[.int .i8 x.kind, .string x.text, .slice A x.l.length c] 25))
  have NX := Lib.hid (blk_new w (.cells #[.int .i8 x.kind, .string x.text, .slice A x.l.length c] 25))
  have HNo := Lib.hid (fun (h : x.l.any noSym = true) => show namesN x = none by rw [namesN_eq, h]; simp)
  have HYe := Lib.hid (fun (h : x.l.any noSym = false) => show namesN x = (if x.kind = 3 then some (x.l.map Sexp.text) else none) by rw [namesN_eq, h]; simp)
  have hk : (x.kind == 3) = decide (x.kind = 3) := rfl
  obtain ⟨i0, hi0, z0, z1, z2⟩ := info_parts info_str
  have I0 := Lib.hid hi0
  have I1 := Lib.hid z0
  have I2 := Lib.hid z1
  have I3 := Lib.hid z2
  clear hr hl hlb hi0 z0 z1 z2
  unfold agS RNames
  generalize namesN x = nx at *
  generalize x.l = ys at *
  generalize x.kind = xk at *
  generalize x.text = xt at *
  go_enter Tryz.func83, Tryz.ntmps83
  go_upto_region 2 with fail
  generalize w.alloc (.cells #[.int .i8 xk, .string xt, .slice A ys.length c] 25) = w1 at *
  go_wp2_with fail
  go_loopw [4, 5] (fun v' i' wr => ∃ k : Nat, k ≤ ys.length ∧ i' = .int .i64 k ∧ Grows 1 StrR 9 w w1.heap.size wr v' ((ys.take k).map Sexp.text) ∧ (ys.take k).any noSym = false ∧ Below w1.heap.size w1 wr) (fun _ i' _ => ys.length - (intOf i').toNat)
  case atStart => exact ⟨0, Nat.zero_le _, rfl, Grows.nil _, rfl, Below.refl _ _⟩
  case round =>
    obtain ⟨k, hk1, rfl, hg, hany, hb⟩ := hrel
    have HG := Lib.hid hg
    have HAny := Lib.hid hany
    have HBr := Lib.hid hb
    have HBW := Lib.hid (HB.out.trans (hb.mono HB.out.size))
    obtain ⟨x0, x1, x2, _⟩ := three_cells ((hb.block _ (lt_of_block NX.out)).trans NX.out)
    obtain ⟨vals, ho, hrr⟩ := hg.row
    have hlk : ((ys.take k).map Sexp.text).length = k := by simp; omega
    have hvl : vals.length = ((ys.take k).map Sexp.text).length * 1 := ho.1
    rw [hlk] at ho
    obtain ⟨Ao, co, rfl⟩ := shape_of_owns ho
    have HOw := Lib.hid ho
    have HRr := Lib.hid hrr
    have HLk := Lib.hid hlk
    have HVl := Lib.hid hvl
    have HSz := Lib.hid hb.size
    clear hg ho hrr hlk hvl hb hany
    by_cases hlt : k < ys.length
    · have hlt2 : (k : Int) < (ys.length : Int) := by omega
      have hyk := List.getElem?_eq_getElem hlt
      generalize ys[k] = y at hyk
      obtain ⟨bb, o, A2, c2, rfl, hbl, e0, e1, e2, hr2⟩ := sexp_cells (HL.out.on SexpR.lasts HBW.out) hyk
      have HSt := Lib.hid (show (y.text.size : Int) ≤ 140737488351232 by obtain ⟨_, _, _, _, _, _, h1, _⟩ := hr2.open'; exact h1)
      have HAn := Lib.hid (any_take (f := noSym) hyk)
      have HMp := Lib.hid (map_take' (f := Sexp.text) hyk)
      have HIs := Lib.hid (rissym_any (w := wr) y A2 c2)
      have HC := Lib.hid (fun W (hW : Below wr.heap.size wr W) => show (W.cell? ⟨w.heap.size, 2, none⟩ = some (.slice (some ⟨bb, o, none⟩) ys.length c)) ∧ W.cell? ⟨bb, o + k * 3 + 1, none⟩ = some (.string y.text) from ⟨(hW.cell (p := ⟨_, 2, none⟩) (Nat.lt_of_lt_of_le (lt_of_block NX.out) HSz.out)).trans x2, (hW.cell (p := ⟨bb, o + k * 3 + 1, none⟩) hbl).trans e1⟩)
      have HYk := Lib.hid hyk
      clear hr2 hyk
      unfold agS at *
      go_wp2_with fail
      refine HIs.out.mono ?_
      rintro e w2 ⟨rfl, hb2⟩
      have HB2 := Lib.hid hb2
      have HBn := Lib.hid (HBW.out.trans (hb2.mono HBW.out.size))
      clear x0 x1 x2 e0 e1 e2
      obtain ⟨x2, e1⟩ := HC.out w2 hb2
      clear hb2
      by_cases hs : y.kind = 0
      · rw [decide_eq_true hs]
        have HN0 := Lib.hid (show (ys.take (k + 1)).any noSym = false by rw [HAn.out, HAny.out]; unfold noSym; simp [hs])
        have HOw2 := Lib.hid (show World.ownsRow (w2.alloc (.cells #[.string y.text] 9)) w1.heap.size 9 1 (.slice Ao k co) k vals from
          (owns_keep HOw.out (Keeps.of_below HB2.out (fun _ => False)) (fun _ h => h.elim)).alloc _)
        have HCl := Lib.hid (Cells.new w2 [.string y.text] 9 (0, 0))
        have HSz2 := Lib.hid (Nat.le_trans HSz.out HB2.out.size)
        have hk48 : k < 4398046511104 := Nat.lt_of_lt_of_le hlt HLen.out
        clear hs
        go_wp2_with (at_builtin; refine wpList_append_at rfl (.tmp 20) (.tmp 27) _ rfl w1.heap.size 9 i0 (.string { data := #[] }) 1 16 Tryz.underlying29 I0.out I1.out I2.out I3.out rfl (by decide) (.slice Ao k co) k vals rfl HOw2.out (some ⟨w2.heap.size, 0, none⟩) 1 1 [.string y.text] rfl rfl HCl.out (by simp [Value.oneCell']) (by unfold maxLen; omega) (by omega) (by have := HSz2.out; simp; omega) ?_)
        intro v' w3 hown hgr hat
        have HG3 := Lib.hid (show Grows 1 StrR 9 w w1.heap.size w3 v' ((ys.take (k + 1)).map Sexp.text) from by
          rw [HMp.out]
          exact Grows.push (vs := [.string y.text]) HVl.out HRr.out (by rw [HLk.out]; exact hown) ⟨rfl, HSt.out⟩ rfl)
        have HB3 := Lib.hid (((HBr.out.trans (HB2.out.mono HSz.out)).alloc HSz2.out _).grown hgr (by have := HSz2.out; simp; omega) (fun q hq => (HOw2.out.lt q hq).1))
        clear hown hgr hat x2 e1
        go_wp2_with fail
        go_roundw
        case rel => exact ⟨k + 1, by omega, by go_num, HG3.out, HN0.out, HB3.out⟩
        case measure => simp [intOf]; omega
      · rw [decide_eq_false hs]
        have HN := Lib.hid (HNo.out (any_mem HYk.out (by unfold noSym; simp [hs])))
        have HRet := Lib.hid (show ∃ (l : List ByteArray) (A' : Option Addr) (c' : Nat), (Ending.returned (.tuple #[.slice none 0 0, .bool false]) = .returned (.tuple #[.slice A' l.length c', .bool nx.isSome]) ∧ l.length ≤ c' ∧ c' ≤ maxLen) ∧ NewLies 1 StrR w.heap.size w2 A' l ∧ (∀ l', nx = some l' → l = l') ∧ Below w.heap.size w w2 from
          ⟨[], none, 0, ⟨by rw [HN.out]; rfl, Nat.le_refl _, Nat.zero_le _⟩, .inl rfl, fun l' h => (by rw [HN.out] at h; cases h), HBn.out⟩)
        clear hs
        go_wp2_with fail
        go_ret2
        exact HRet.out
    · obtain rfl : k = ys.length := by omega
      have HN := Lib.hid (HYe.out (by have h := HAny.out; rw [List.take_length] at h; exact h))
      have HNL := Lib.hid (show NewLies 1 StrR w.heap.size wr Ao (ys.map Sexp.text) from by
        have h := HG.out
        rw [List.take_length] at h
        exact (grows_new (n := 1) (t := 9) (w0 := w) (c := co) strR_flat (by rw [List.length_map]; exact h)).mono HB.out.size)
      have HSh := Lib.hid (owns_shape HOw.out)
      have hlm : (ys.map Sexp.text).length = ys.length := List.length_map _
      have HRet := Lib.hid (show ∃ (l : List ByteArray) (A' : Option Addr) (c' : Nat), (Ending.returned (.tuple #[.slice Ao ys.length co, .bool (decide (xk = 3))]) = .returned (.tuple #[.slice A' l.length c', .bool nx.isSome]) ∧ l.length ≤ c' ∧ c' ≤ maxLen) ∧ NewLies 1 StrR w.heap.size wr.drew A' l ∧ (∀ l', nx = some l' → l = l') ∧ Below w.heap.size w wr.drew from by
        refine ⟨ys.map Sexp.text, Ao, co, ⟨?_, by rw [hlm]; exact HSh.out.1, HSh.out.2⟩, HNL.out.keep strR_flat ((Keeps.refl (fun _ => False) wr).drew) (fun _ h => h.elim), fun l' h => ?_, HBW.out.drew⟩
        · rw [hlm, HN.out]
          by_cases h3 : xk = 3
          · rw [if_pos h3, decide_eq_true h3]; rfl
          · rw [if_neg h3, decide_eq_false h3]; rfl
        · rw [HN.out] at h
          split at h
          · exact Option.some.inj h
          · cases h)
      clear hlm
      go_wp2_with fail
      go_region_with fail
      all_goals
        go_wp2_with fail
        go_ret2
        exact HRet.out
end Go.Proofs.YtbchcipjpcdhfaaGreatDoor.Cm
