import Derived.Test.YtbchcipjpcdhfaaDoorMq
/- merged by wip/merge.py from: Law8Wakes -/
/- What the document says of push, shown of the program. -/
namespace Go.Proofs.YtbchcipjpcdhfaaDoor.Cm
open Go.RowKit Go.Proofs.YtbchcipjpcdhfaaDoor.Dt

theorem lsym_any (s : ByteArray) (w : World) : Calls Tryd.prog 16 #[.string s] w fun e w' => e = .returned (.agg #[.int .i8 0, .string s, .slice none 0 0]) ∧ Below w.heap.size w w' := by
  go_enter Tryd.func16, Tryd.ntmps16
  go_wp2_with fail
  exact sexp_ret Tryd.results16 (blk_new _ _) rfl rfl ⟨rfl, (Below.refl _ _).alloc (Nat.le_refl _) _⟩
theorem parse_lit {W : World} {A : Option Addr} {c : Nat} {xs : List Sexp} {o : Option Cmd} (hl : Lies 3 SexpR W A xs) (h1 : xs.length ≤ c) (h2 : c ≤ maxLen) (h3 : xs.length * 48 ≤ 140737488351232) (ho : cmdO (listX xs) = o) :
    Calls Tryd.prog 9 #[.agg #[.int .i8 3, .string { data := #[] }, .slice A xs.length c]] W (CmdRes W o 30) := by
  have := parse_cmd_any (x := listX xs) (A := A) (c := c) (list_r hl h1 h2 h3)
  rw [ho] at this
  exact this
theorem lit_two (w : World) {x y : Sexp} {a b : Bit} {cs : Array Value} (hc : cs.toList = cells3 [a, b]) (h1 : BitR (w.alloc (.cells cs 30)) a) (h2 : BitR (w.alloc (.cells cs 30)) b) (e1 : a.1 = x) (e2 : b.1 = y) : Lies 3 SexpR (w.alloc (.cells cs 30)) (some ⟨w.heap.size, 0, none⟩) [x, y] := by
  subst e1 e2
  exact lit_lies (ys := [a, b]) (blk_new w _) hc (bits_two h1 h2)
theorem lit_one (w : World) {x : Sexp} {a : Bit} {cs : Array Value} (hc : cs.toList = cells3 [a]) (h1 : BitR (w.alloc (.cells cs 30)) a) (e1 : a.1 = x) : Lies 3 SexpR (w.alloc (.cells cs 30)) (some ⟨w.heap.size, 0, none⟩) [x] := by
  subst e1
  exact lit_lies (ys := [a]) (blk_new w _) hc (bits_one h1)
theorem push_res {w w' : World} {e : Ending} (h : CmdRes w (some cPush) 30 e w') : ∃ A1 c1 A2 c2 A3 c3 A4 c4, e = .returned (.tuple #[.agg #[.int .i8 6, .string { data := #[] }, .int .i64 1, .slice A1 0 c1, .slice A2 0 c2, .slice A3 0 c3, .string { data := #[] }, .slice A4 0 c4], .int .i64 0]) ∧ Below w.heap.size w w' := by
  obtain ⟨A1, c1, A2, c2, A3, c3, A4, c4, h1, _, h2⟩ := h
  exact ⟨A1, c1, A2, c2, A3, c3, A4, c4, h1, h2⟩
theorem push0_res {w w' : World} {e : Ending} (h : CmdRes w none 30 e w') : ∃ A1 c1 A2 c2 A3 c3 A4 c4, e = .returned (.tuple #[.agg #[.int .i8 0, .string { data := #[] }, .int .i64 0, .slice A1 0 c1, .slice A2 0 c2, .slice A3 0 c3, .string { data := #[] }, .slice A4 0 c4], .int .i64 30]) ∧ Below w.heap.size w w' := by
  obtain ⟨A1, c1, A2, c2, A3, c3, A4, c4, h1, _, h2⟩ := h
  exact ⟨A1, c1, A2, c2, A3, c3, A4, c4, h1, h2⟩
theorem cChk_at (w : World) : CmdAt w none 0 none 0 none 0 none 0 cChk :=
  ⟨.inl rfl, .inl rfl, .inl rfl, .inl rfl, Nat.le_refl _, Nat.le_refl _, Nat.le_refl _, Nat.le_refl _, Nat.zero_le _, Nat.zero_le _, Nat.zero_le _, Nat.zero_le _, Nat.zero_le _, (by decide : (Lit.int .i8 8).wf = true), (show I64 0 from ⟨by decide, by decide⟩), (by decide : ((noS.size : Nat) : Int) ≤ 140737488351232), (by decide : ((noS.size : Nat) : Int) ≤ 140737488351232)⟩
theorem chk_text (w : World) (ht : TabOk w) : Calls Tryd.prog 13 #[.agg #[.int .i8 8, .string { data := #[] }, .int .i64 0, .slice none 0 0, .slice none 0 0, .slice none 0 0, .string { data := #[] }, .slice none 0 0]] w fun e w' => e = .returned (.tuple #[.string { data := #[40, 99, 104, 101, 99, 107, 45, 115, 97, 116, 41] }, .int .i64 0]) ∧ Below w.heap.size w w' := by
  have h := ctext_any (cChk_at w) ⟨by decide, by decide, by decide, by decide⟩ ht (fun _ => by rw [textL_chk]; decide)
  rw [texte_chk, textb_chk] at h
  exact h
set_option maxRecDepth 100000 in
set_option maxHeartbeats 3200000 in
theorem wakes8_any (w : World) (ht : TabOk w) : Calls Tryd.prog 7 #[] w fun e w' => e = .returned (.bool true) ∧ Below w.heap.size w w' := by
  have HT := Lib.hid ht
  have HS := Lib.hid (fun W => lsym_any { data := #[112, 117, 115, 104] } W)
  clear ht
  go_enter Tryd.func7, Tryd.ntmps7
  go_wp2_with fail
  refine (HS.out _).mono ?_
  rintro e w1 ⟨rfl, hb1⟩
  have B1 := Lib.hid hb1
  have B2 := Lib.hid (B1.out.alloc B1.out.size (.cells #[.int .i8 0, .string { data := #[112, 117, 115, 104] }, .slice none 0 0, .int .i8 1, .string { data := #[49] }, .slice none 0 0] 30))
  have HP1 := Lib.hid ((parse_lit (c := 2) (lit_two w1 (x := symX sPush) (y := one1) (a := (symX sPush, none, 0)) (b := (one1, none, 0)) (cs := #[.int .i8 0, .string { data := #[112, 117, 115, 104] }, .slice none 0 0, .int .i8 1, .string { data := #[49] }, .slice none 0 0]) rfl (sym_r _ _ (by decide)) (leaf_r _ 1 _ (by decide) (by decide)) rfl rfl) (by decide) (by decide) (by decide) cmd_push).mono fun e w' h => push_res h)
  clear hb1
  go_wp2_with fail
  refine HP1.out.mono ?_
  rintro e w2 ⟨A1, c1, A2, c2, A3, c3, A4, c4, rfl, hb2⟩
  have N1 := Lib.hid (blk_new w2 (.cells #[.int .i8 6, .string { data := #[] }, .int .i64 1, .slice A1 0 c1, .slice A2 0 c2, .slice A3 0 c3, .string { data := #[] }, .slice A4 0 c4] 28))
  have B4 := Lib.hid ((B2.out.trans (hb2.mono B2.out.size)).alloc (Nat.le_trans B2.out.size hb2.size) (.cells #[.int .i8 6, .string { data := #[] }, .int .i64 1, .slice A1 0 c1, .slice A2 0 c2, .slice A3 0 c3, .string { data := #[] }, .slice A4 0 c4] 28))
  clear hb2 HP1
  go_upto_region 2 with fail
  generalize w2.alloc (.cells #[.int .i8 6, .string { data := #[] }, .int .i64 1, .slice A1 0 c1, .slice A2 0 c2, .slice A3 0 c3, .string { data := #[] }, .slice A4 0 c4] 28) = w3 at *
  go_wp2_with fail
  refine (HS.out _).mono ?_
  rintro e w4 ⟨rfl, hb4⟩
  have B5 := Lib.hid ((B4.out.trans (hb4.mono B4.out.size)).alloc (Nat.le_trans B4.out.size hb4.size) (.cells #[.int .i8 0, .string { data := #[112, 117, 115, 104] }, .slice none 0 0] 30))
  have N2 := Lib.hid ((Below.heap_alloc w4 (.cells #[.int .i8 0, .string { data := #[112, 117, 115, 104] }, .slice none 0 0] 30) _ (lt_of_block ((hb4.block _ (lt_of_block N1.out)).trans N1.out))).trans ((hb4.block _ (lt_of_block N1.out)).trans N1.out))
  have HP2 := Lib.hid ((parse_lit (c := 1) (lit_one w4 (x := symX sPush) (a := (symX sPush, none, 0)) (cs := #[.int .i8 0, .string { data := #[112, 117, 115, 104] }, .slice none 0 0]) rfl (sym_r _ _ (by decide)) rfl) (by decide) (by decide) (by decide) cmd_push0).mono fun e w' h => push0_res h)
  clear hb4
  go_wp2_with fail
  refine HP2.out.mono ?_
  rintro e w5 ⟨D1, d1, D2, d2, D3, d3, D4, d4, rfl, hb5⟩
  have B6 := Lib.hid ((B5.out.trans (hb5.mono B5.out.size)).alloc (Nat.le_trans B5.out.size hb5.size) (.cells #[.int .i8 0, .string { data := #[] }, .int .i64 0, .slice D1 0 d1, .slice D2 0 d2, .slice D3 0 d3, .string { data := #[] }, .slice D4 0 d4] 28))
  have N3 := Lib.hid ((Below.heap_alloc w5 (.cells #[.int .i8 0, .string { data := #[] }, .int .i64 0, .slice D1 0 d1, .slice D2 0 d2, .slice D3 0 d3, .string { data := #[] }, .slice D4 0 d4] 28) _ (lt_of_block ((hb5.block _ (lt_of_block N2.out)).trans N2.out))).trans ((hb5.block _ (lt_of_block N2.out)).trans N2.out))
  clear hb5 HP2
  go_upto_region 3 with fail
  generalize w5.alloc (.cells #[.int .i8 0, .string { data := #[] }, .int .i64 0, .slice D1 0 d1, .slice D2 0 d2, .slice D3 0 d3, .string { data := #[] }, .slice D4 0 d4] 28) = w6 at *
  have HTx := Lib.hid (chk_text w6 (HT.out.on B6.out))
  go_wp2_with fail
  refine HTx.out.mono ?_
  rintro e w7 ⟨rfl, hb7⟩
  have B7 := Lib.hid (B6.out.trans (hb7.mono B6.out.size))
  obtain ⟨n0, n1, n2, n3, n4, n5, n6, n7, nf⟩ := eight_cells ((hb7.block _ (lt_of_block N3.out)).trans N3.out)
  clear hb7
  go_wp2_with fail
  go_ret
  exact ⟨rfl, B7.out⟩
end Go.Proofs.YtbchcipjpcdhfaaDoor.Cm
