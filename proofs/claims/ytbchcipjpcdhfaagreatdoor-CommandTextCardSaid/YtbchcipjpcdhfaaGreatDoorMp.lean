import Derived.Test.YtbchcipjpcdhfaaGreatDoorMo
import Derived.Test.YtbchcipjpcdhfaaGreatDoorMn
import Derived.Test.YtbchcipjpcdhfaaGreatDoorMe
import Derived.Test.YtbchcipjpcdhfaaGreatDoorMb
import Derived.Lib.Builder
import Derived.Lib.AppendStr
import Derived.Lib.UnsafeStr
import Derived.Deep.RegionHeld3
/- merged by wip/merge.py from: Law8Len CmdMay SexpBld -/
/- A command that is not too great has a text of a bounded length. No program in sight. -/
namespace Go.Proofs.YtbchcipjpcdhfaaGreatDoor.Cm
open Go.RowKit Go.Proofs.YtbchcipjpcdhfaaGreatDoor.Dt

theorem full_leaf (k : Int) (s : ByteArray) : (Sexp.mk k s []).full = 1 + s.size := by rw [Sexp.full, Sexp.fullL_nil, Nat.add_zero]
theorem full_list (l : List Sexp) : (listX l).full = 1 + Sexp.fullL l := by unfold listX; rw [Sexp.full]; rfl
theorem fullL_map {α : Type} {f : α → Sexp} {m : Nat} : ∀ {l : List α}, (∀ x ∈ l, (f x).full ≤ m) → Sexp.fullL (l.map f) ≤ l.length * m
  | [], _ => by rw [List.map_nil, Sexp.fullL_nil]; exact Nat.zero_le _
  | x :: r, h => by
    have h1 := h x (List.mem_cons_self ..)
    have h2 := fullL_map (l := r) (fun y hy => h y (List.mem_cons_of_mem _ hy))
    rw [List.map_cons, Sexp.fullL_cons, List.length_cons, Nat.succ_mul]
    omega
theorem fullL_le {m : Nat} {l : List Sexp} (h : ∀ x ∈ l, x.full ≤ m) : Sexp.fullL l ≤ l.length * m := by
  have := fullL_map (f := fun x => x) h
  rwa [List.map_id'] at this
theorem num_len (n : Int) (hn : I64 n) : (⟨(textL n).toArray⟩ : ByteArray).size ≤ 100 := by
  show (textL n).toArray.size ≤ _
  rw [List.size_toArray]
  unfold I64 at hn
  unfold textL
  split
  · rename_i hm
    have hb := mayB_iff.1 hm
    have h1 := Lib.itoa_length_le n (by omega) (by omega)
    have h2 := Lib.itoa_length_le (-n) (by omega) (by omega)
    split
    · simp only [List.length_append, List.length_cons, List.length_nil]; omega
    · omega
  · simp
theorem num_full (n : Int) (hn : I64 n) : (numX n).full ≤ 101 := by
  unfold numX
  rw [full_leaf]
  have := num_len n hn
  omega
theorem sym_full (s : ByteArray) {m : Nat} (h : s.size ≤ m) : (symX s).full ≤ 1 + m := by unfold symX; rw [full_leaf]; omega
/-- the numbers are numbers -/
def CmdNs (c : Cmd) : Prop := I64 c.n ∧ ∀ n ∈ c.l, I64 n
theorem write_full {c : Cmd} (h : CmdOk c) (hn : CmdNs c) : Sexp.fullL (writeL c) ≤ 300000 := by
  have e0 := Sexp.fullL_nil
  have hs : ∀ s : ByteArray, s.size ≤ 500 → (symX s).full ≤ 501 := fun s hs => sym_full s hs
  have hnm : c.name.size ≤ 500 := by have := h.names; omega
  have hrs : c.res.size ≤ 500 := by have := h.names; omega
  have h1 := num_full c.n hn.1
  have h0 := num_full 0 ⟨by decide, by decide⟩
  have hl : (listX (c.l.map numX)).full ≤ 1 + 200 * 101 := by
    rw [full_list]
    have := fullL_map (f := numX) (m := 101) (l := c.l) (fun n hm => num_full n (hn.2 n hm))
    have h2 := Nat.mul_le_mul_right 101 h.l
    omega
  have ha : (listX (c.args.map symX)).full ≤ 1 + 40 * 201 := by
    rw [full_list]
    have := fullL_map (f := symX) (m := 201) (l := c.args) (fun s hm => sym_full s (h.arg s hm))
    have h2 := Nat.mul_le_mul_right 201 h.args
    omega
  have hp : (listX (c.params.map pairX)).full ≤ 1 + 40 * 403 := by
    rw [full_list]
    have := fullL_map (f := pairX) (m := 403) (l := c.params) (fun p hm => by
      unfold pairX
      rw [full_list, Sexp.fullL_cons, Sexp.fullL_cons, Sexp.fullL_nil]
      have h1 := h.param p hm
      have h2 := sym_full p.1 (Nat.le_refl _)
      have h3 := sym_full p.2 (Nat.le_refl _)
      omega)
    have h2 := Nat.mul_le_mul_right 403 h.params
    omega
  have ht : Sexp.fullL c.terms ≤ 160000 := by
    have := fullL_le (m := 4000) (l := c.terms) (fun x hm => Nat.le_of_lt (h.term x hm))
    exact Nat.le_trans this (Nat.mul_le_mul_right 4000 h.terms)
  have htl : (listX c.terms).full ≤ 160001 := by rw [full_list]; omega
  have hk : (Sexp.mk 2 c.name []).full ≤ 501 := by rw [full_leaf]; omega
  have q := hs c.name hnm
  have q2 := hs c.res hrs
  have g1 := hs sLogic (by decide); have g2 := hs sOption (by decide); have g3 := hs sSort (by decide); have g4 := hs sFun (by decide); have g5 := hs sDefine (by decide); have g6 := hs sAssert (by decide); have g7 := hs sPush (by decide); have g8 := hs sPop (by decide); have g9 := hs sCheck (by decide); have g10 := hs sModel (by decide); have g11 := hs sValue (by decide); have g12 := hs sProof (by decide); have g13 := hs sExit (by decide)
  unfold writeL
  by_cases k0 : c.kind = 0
  · rw [if_pos k0]; simp only [Sexp.fullL_cons, Sexp.fullL_nil]; omega
  rw [if_neg k0]
  by_cases k1 : c.kind = 1
  · rw [if_pos k1]
    split <;> (simp only [Sexp.fullL_cons, Sexp.fullL_nil]; omega)
  rw [if_neg k1]
  by_cases k2 : c.kind = 2
  · rw [if_pos k2]; simp only [Sexp.fullL_cons, Sexp.fullL_nil]; omega
  rw [if_neg k2]
  by_cases k3 : c.kind = 3
  · rw [if_pos k3]; simp only [Sexp.fullL_cons, Sexp.fullL_nil]; omega
  rw [if_neg k3]
  by_cases k4 : c.kind = 4
  · rw [if_pos k4]; simp only [Sexp.fullL_cons, Sexp.fullL_append, Sexp.fullL_nil]; omega
  rw [if_neg k4]
  by_cases k5 : c.kind = 5
  · rw [if_pos k5]; simp only [Sexp.fullL_cons]; omega
  rw [if_neg k5]
  by_cases k6 : c.kind = 6
  · rw [if_pos k6]; simp only [Sexp.fullL_cons, Sexp.fullL_nil]; omega
  rw [if_neg k6]
  by_cases k7 : c.kind = 7
  · rw [if_pos k7]; simp only [Sexp.fullL_cons, Sexp.fullL_nil]; omega
  rw [if_neg k7]
  by_cases k8 : c.kind = 8
  · rw [if_pos k8]; simp only [Sexp.fullL_cons, Sexp.fullL_nil]; omega
  rw [if_neg k8]
  by_cases k9 : c.kind = 9
  · rw [if_pos k9]; simp only [Sexp.fullL_cons, Sexp.fullL_nil]; omega
  rw [if_neg k9]
  by_cases k10 : c.kind = 10
  · rw [if_pos k10]; simp only [Sexp.fullL_cons, Sexp.fullL_nil]; omega
  rw [if_neg k10]
  by_cases k11 : c.kind = 11
  · rw [if_pos k11]; simp only [Sexp.fullL_cons, Sexp.fullL_nil]; omega
  rw [if_neg k11]
  by_cases k12 : c.kind = 12
  · rw [if_pos k12]; simp only [Sexp.fullL_cons, Sexp.fullL_nil]; omega
  rw [if_neg k12]
  rw [e0]; omega
theorem text_short {c : Cmd} (h : CmdOk c) (hn : CmdNs c) : (writeX c).textL.length ≤ 140737488355328 := by
  have h1 := write_full h hn
  have h2 := Sexp.text_full (writeX c)
  unfold writeX at h2 ⊢
  rw [full_list] at h2
  omega
theorem cmdAt_ns {w : World} {A1 A2 A3 A4 : Option Addr} {c1 c2 c3 c4 : Nat} {c : Cmd} (h : CmdAt w A1 c1 A2 c2 A3 c3 A4 c4 c) : CmdNs c := by
  refine ⟨h.n, fun n hn => ?_⟩
  obtain ⟨k, hk, e⟩ := List.mem_iff_getElem.1 hn
  obtain ⟨_, _, _, _, hi⟩ := int_get h.l hk
  rw [List.getD_eq_getElem?_getD, List.getElem?_eq_getElem hk] at hi
  rw [← e]; exact hi
end Go.Proofs.YtbchcipjpcdhfaaGreatDoor.Cm
/- May a command be; its list. The program's answers. -/
namespace Go.Proofs.YtbchcipjpcdhfaaGreatDoor.Cm
open Go.RowKit Go.Proofs.YtbchcipjpcdhfaaGreatDoor.Dt

noncomputable def mayCB (c : Cmd) : Bool := eqB (cmdO (writeX c)) (some c)
theorem cmdO_syms (k : ByteArray) (h : ∀ r, formO k r = none) : cmdO (listX [symX k]) = none := by
  unfold cmdO
  split
  · unfold parseO
    show (if (3 : Int) = 3 ∧ (0 : Int) = 0 then formO k [] else none) = none
    rw [if_pos ⟨rfl, rfl⟩, h]
  · rfl
theorem formO_noS (r : List Sexp) : formO noS r = none := by
  unfold formO
  simp only [show ¬ noS = sExit by decide, show ¬ noS = sProof by decide, show ¬ noS = sModel by decide, show ¬ noS = sCheck by decide, show ¬ noS = sValue by decide, show ¬ noS = sPop by decide, show ¬ noS = sPush by decide, show ¬ noS = sAssert by decide, show ¬ noS = sDefine by decide, show ¬ noS = sFun by decide, show ¬ noS = sSort by decide, show ¬ noS = sOption by decide, show ¬ noS = sLogic by decide, if_false]
theorem writeL_none {c : Cmd} (h : ¬ (0 ≤ c.kind ∧ c.kind ≤ 12)) : writeL c = [] := by
  unfold writeL
  rw [if_neg (by omega), if_neg (by omega), if_neg (by omega), if_neg (by omega), if_neg (by omega), if_neg (by omega), if_neg (by omega), if_neg (by omega), if_neg (by omega), if_neg (by omega), if_neg (by omega), if_neg (by omega), if_neg (by omega)]
theorem prog_may (c : Cmd) : eqB (cmdO (listX (progL c))) (some c) = mayCB c := by
  unfold mayCB progL
  split
  · rfl
  · rename_i h
    have e1 : cmdO (listX [symX noS]) = none := cmdO_syms noS formO_noS
    have e2 : cmdO (writeX c) = none := by
      unfold writeX
      rw [writeL_none h]
      unfold cmdO
      split <;> rfl
    rw [e1, e2]
theorem prog_of_may {c : Cmd} (h : mayCB c = true) : progL c = writeL c := by
  unfold progL
  split
  · rfl
  · rename_i hk
    unfold mayCB at h
    rw [eqB_true] at h
    unfold writeX at h
    rw [writeL_none hk] at h
    unfold cmdO at h
    split at h
    · cases h
    · cases h
theorem may_of_mayCB {c : Cmd} (h : mayCB c = true) : (writeX c).may = true := (cmdO_back (eqB_true.1 h)).2
theorem res_may {o : Option Cmd} {c : Cmd} : eqB o (some c) = (o.isSome && eqB (o.getD noCmd) c) := by
  cases o with
  | none => exact eqB_false.2 (by simp)
  | some d =>
    rw [Bool.eq_iff_iff, eqB_true]
    simp [eqB_true]
set_option maxHeartbeats 6400000 in
theorem cmay_any {w : World} {A1 A2 A3 A4 : Option Addr} {c1 c2 c3 c4 : Nat} {c : Cmd} (h : CmdAt w A1 c1 A2 c2 A3 c3 A4 c4 c) (hs : CmdSmall c) (ht : TabOk w) :
    Calls Tryz.prog 16 #[agC A1 c1 A2 c2 A3 c3 A4 c4 c] w fun e w' => e = .returned (.bool (mayCB c)) ∧ Below w.heap.size w w' := by
  have HC := Lib.hid h
  have HB0 := Lib.hid ((Below.refl w.heap.size w).alloc (Nat.le_refl _) (.cells #[.int .i8 c.kind, .string c.name, .int .i64 c.n, .slice A1 c.l.length c1, .slice A2 c.args.length c2, .slice A3 c.params.length c3, .string c.res, .slice A4 c.terms.length c4] 32))
  have NB := Lib.hid (blk_new w (.cells #[.int .i8 c.kind, .string c.name, .int .i64 c.n, .slice A1 c.l.length c1, .slice A2 c.args.length c2, .slice A3 c.params.length c3, .string c.res, .slice A4 c.terms.length c4] 32))
  have HW := Lib.hid (written_any h HB0.out hs (ht.on HB0.out))
  have HM := Lib.hid ((prog_may c).symm.trans res_may)
  clear h hs ht
  unfold agC at *
  go_enter Tryz.func16, Tryz.ntmps16
  go_upto_region 1 with fail
  generalize w.alloc (.cells #[.int .i8 c.kind, .string c.name, .int .i64 c.n, .slice A1 c.l.length c1, .slice A2 c.args.length c2, .slice A3 c.params.length c3, .string c.res, .slice A4 c.terms.length c4] 32) = w1 at *
  obtain ⟨n0, n1, n2, n3, n4, n5, n6, n7, nf⟩ := eight_cells NB.out
  go_wp2_with fail
  refine HW.out.mono ?_
  rintro e w2 ⟨Aw, cw, rfl, hr, hb2⟩
  have B2 := Lib.hid (HB0.out.trans (hb2.mono HB0.out.size))
  have N2 := Lib.hid ((hb2.block _ (lt_of_block NB.out)).trans NB.out)
  have HP := Lib.hid (parse_cmd_any (A := Aw) (c := cw) (x := listX (progL c)) (hr _ (Keeps.refl _ _)))
  replace HP : Hid (Calls Tryz.prog 8 #[.agg #[.int .i8 3, .string { data := #[] }, .slice Aw (progL c).length cw]] w2 (CmdRes w2 (cmdO (listX (progL c))) 30)) := HP
  clear hr hb2 n0 n1 n2 n3 n4 n5 n6 n7 nf NB
  generalize cmdO (listX (progL c)) = o at *
  go_wp2_with fail
  refine HP.out.mono ?_
  rintro e w3 ⟨D1, d1, D2, d2, D3, d3, D4, d4, rfl, hat, hb3⟩
  unfold cmdCells
  have B3 := Lib.hid (B2.out.trans (hb3.mono B2.out.size))
  have N3 := Lib.hid ((hb3.block _ (lt_of_block N2.out)).trans N2.out)
  have HD := Lib.hid hat
  obtain ⟨n0, n1, n2, n3, n4, n5, n6, n7, nf⟩ := eight_cells N3.out
  clear hat hb3
  generalize hod : o.getD noCmd = d at *
  clear hod
  have B4 := Lib.hid ((Below.refl w3.heap.size w3).alloc (Nat.le_refl _) (.cells #[.int .i8 d.kind, .string d.name, .int .i64 d.n, .slice D1 d.l.length d1, .slice D2 d.args.length d2, .slice D3 d.params.length d3, .string d.res, .slice D4 d.terms.length d4] 32))
  have HS := Lib.hid (csame_any (HD.out.on B4.out) (HC.out.on (B3.out.trans (B4.out.mono B3.out.size))))
  unfold agC at *
  have HB4 := Lib.hid (B3.out.trans (B4.out.mono B3.out.size))
  have M4 := Lib.hid (blk_new w3 (.cells #[.int .i8 d.kind, .string d.name, .int .i64 d.n, .slice D1 d.l.length d1, .slice D2 d.args.length d2, .slice D3 d.params.length d3, .string d.res, .slice D4 d.terms.length d4] 32))
  have N4 := Lib.hid ((B4.out.block _ (lt_of_block N3.out)).trans N3.out)
  cases o with
  | none =>
    have HR := Lib.hid (show mayCB c = false from HM.out)
    go_wp2_with fail
    go_ret
    exact ⟨ret_bool HR.out.symm, HB4.out⟩
  | some dd =>
    have HR := Lib.hid (show mayCB c = eqB d c from HM.out.trans (by rw [Option.isSome_some, Bool.true_and]))
    go_upto_region 2 with fail
    generalize w3.alloc (.cells #[.int .i8 d.kind, .string d.name, .int .i64 d.n, .slice D1 d.l.length d1, .slice D2 d.args.length d2, .slice D3 d.params.length d3, .string d.res, .slice D4 d.terms.length d4] 32) = w4 at *
    clear n0 n1 n2 n3 n4 n5 n6 n7 nf
    obtain ⟨n0, n1, n2, n3, n4, n5, n6, n7, nf⟩ := eight_cells N4.out
    obtain ⟨m0, m1, m2, m3, m4, m5, m6, m7, mf⟩ := eight_cells M4.out
    go_wp2_with fail
    refine HS.out.mono ?_
    rintro e w5 ⟨rfl, hb5⟩
    have B5 := Lib.hid (HB4.out.trans (hb5.mono HB4.out.size))
    clear hb5
    go_wp2_with fail
    go_ret
    exact ⟨ret_bool HR.out.symm, B5.out⟩
/-- a command's list and an error as they are handed back; what is handed back lies at no place between the two -/
def SexpRes (lo : Nat) (w : World) (c : Cmd) (e : Ending) (w' : World) : Prop :=
  ∃ x A' c', (e = .returned (.tuple #[.agg #[.int .i8 x.kind, .string x.text, .slice A' x.l.length c'], .int .i64 (if mayCB c then 0 else 2)]) ∧ x = if mayCB c then writeX c else noSexp) ∧ (∀ W', Stays lo w.heap.size w' W' → SexpR W' [.int .i8 x.kind, .string x.text, .slice A' x.l.length c'] x) ∧ Below w.heap.size w w'
theorem sexp2_ret {f : Func} {w : World} {b : Nat} {r0 r1 r2 : Value} {E : Int} {act : Act} {t : TypeId} {R : Ending → World → Prop} (hf : f.results = #[.cell 2 25, .tmp 3]) (hb : w.heap[b]? = some (.cells #[r0, r1, r2] t (0, 0))) (h2 : act.tmps[2]? = some (.pointer (some ⟨b, 0, none⟩))) (h3 : act.tmps[3]? = some (.int .i64 E)) (hd : act.defers = []) (hR : R (.returned (.tuple #[.agg #[r0, r1, r2], .int .i64 E])) w) :
    bodyPost Tryz.prog f R .ret act w := by
  obtain ⟨y0, y1, y2, _⟩ := three_cells hb
  refine bodyPost_ret (v := .tuple #[.agg #[r0, r1, r2], .int .i64 E]) ?_ hd hR
  simp [results, hf, go_sem, y0, y1, y2, h2, h3]
set_option maxHeartbeats 6400000 in
theorem csexp_any {W0 w : World} {A1 A2 A3 A4 : Option Addr} {c1 c2 c3 c4 : Nat} {c : Cmd} (h : CmdAt W0 A1 c1 A2 c2 A3 c3 A4 c4 c) (hb0 : Below W0.heap.size W0 w) (hs : CmdSmall c) (ht : TabOk w) :
    Calls Tryz.prog 12 #[agC A1 c1 A2 c2 A3 c3 A4 c4 c] w (SexpRes W0.heap.size w c) := by
  have HB0 := Lib.hid hb0
  have HC := Lib.hid h
  have BX := Lib.hid (((Below.refl w.heap.size w).alloc (Nat.le_refl _) (.cells #[.int .i8 c.kind, .string c.name, .int .i64 c.n, .slice A1 c.l.length c1, .slice A2 c.args.length c2, .slice A3 c.params.length c3, .string c.res, .slice A4 c.terms.length c4] 32)).alloc (by simp) (.cells #[.int .i8 0, .string { data := #[] }, .slice none 0 0] 25))
  have NB := Lib.hid (show ((w.alloc (.cells #[.int .i8 c.kind, .string c.name, .int .i64 c.n, .slice A1 c.l.length c1, .slice A2 c.args.length c2, .slice A3 c.params.length c3, .string c.res, .slice A4 c.terms.length c4] 32)).alloc (.cells #[.int .i8 0, .string { data := #[] }, .slice none 0 0] 25)).heap[w.heap.size]? = _ from (Below.heap_alloc _ _ _ (by simp)).trans (blk_new w (.cells #[.int .i8 c.kind, .string c.name, .int .i64 c.n, .slice A1 c.l.length c1, .slice A2 c.args.length c2, .slice A3 c.params.length c3, .string c.res, .slice A4 c.terms.length c4] 32)))
  have RB := Lib.hid (show ((w.alloc (.cells #[.int .i8 c.kind, .string c.name, .int .i64 c.n, .slice A1 c.l.length c1, .slice A2 c.args.length c2, .slice A3 c.params.length c3, .string c.res, .slice A4 c.terms.length c4] 32)).alloc (.cells #[.int .i8 0, .string { data := #[] }, .slice none 0 0] 25)).heap[w.heap.size + 1]? = some (.cells #[.int .i8 0, .string { data := #[] }, .slice none 0 0] 25 (0, 0)) from by
    have hh := blk_new (w.alloc (.cells #[.int .i8 c.kind, .string c.name, .int .i64 c.n, .slice A1 c.l.length c1, .slice A2 c.args.length c2, .slice A3 c.params.length c3, .string c.res, .slice A4 c.terms.length c4] 32)) (.cells #[.int .i8 0, .string { data := #[] }, .slice none 0 0] 25)
    have e : (w.alloc (.cells #[.int .i8 c.kind, .string c.name, .int .i64 c.n, .slice A1 c.l.length c1, .slice A2 c.args.length c2, .slice A3 c.params.length c3, .string c.res, .slice A4 c.terms.length c4] 32)).heap.size = w.heap.size + 1 := by simp
    rw [e] at hh
    exact hh)
  have HMy := Lib.hid (fun W (hW : Below w.heap.size w W) => cmay_any (h.on (hb0.trans (hW.mono hb0.size))) hs (ht.on hW))
  have HWr := Lib.hid (fun W (hW : Below w.heap.size w W) => written_any h (hb0.trans (hW.mono hb0.size)) hs (ht.on hW))
  have HPm := Lib.hid (fun (e : mayCB c = true) => prog_of_may e)
  clear h hb0 hs ht
  unfold agC at *
  go_enter Tryz.func12, Tryz.ntmps12
  go_upto_region 1 with fail
  generalize ((w.alloc (.cells #[.int .i8 c.kind, .string c.name, .int .i64 c.n, .slice A1 c.l.length c1, .slice A2 c.args.length c2, .slice A3 c.params.length c3, .string c.res, .slice A4 c.terms.length c4] 32)).alloc (.cells #[.int .i8 0, .string { data := #[] }, .slice none 0 0] 25)) = w1 at *
  obtain ⟨n0, n1, n2, n3, n4, n5, n6, n7, nf⟩ := eight_cells NB.out
  go_wp2_with fail
  refine (HMy.out _ BX.out).mono ?_
  rintro e w2 ⟨rfl, hb2⟩
  have B2 := Lib.hid (BX.out.trans (hb2.mono BX.out.size))
  have N2 := Lib.hid ((hb2.block _ (lt_of_block NB.out)).trans NB.out)
  have R2 := Lib.hid ((hb2.block _ (lt_of_block RB.out)).trans RB.out)
  clear hb2 n0 n1 n2 n3 n4 n5 n6 n7 nf
  obtain ⟨n0, n1, n2, n3, n4, n5, n6, n7, nf⟩ := eight_cells N2.out
  cases hm : mayCB c with
  | false =>
    obtain ⟨z0, z1, z2, zf⟩ := three_cells R2.out
    have HF := Lib.hid (show SexpRes W0.heap.size w c (.returned (.tuple #[.agg #[.int .i8 0, .string { data := #[] }, .slice none 0 0], .int .i64 2])) (set3 w2 (w.heap.size + 1) (.int .i8 0) (.string { data := #[] }) (.slice none 0 0)) from
      ⟨noSexp, none, 0, ⟨by rw [hm]; rfl, by rw [hm]; rfl⟩, fun W' _ => noSexp_r W', (set3_keeps (S := fun _ => False) (Keeps.of_below B2.out _) (.inr (by omega)) _ _ _).none_below⟩)
    go_wp2_with fail
    exact sexp2_ret (w := set3 w2 (w.heap.size + 1) (.int .i8 0) (.string { data := #[] }) (.slice none 0 0)) Tryz.results12 (three_set R2.out _ _ _) rfl rfl rfl HF.out
  | true =>
    have HLp := Lib.hid (HPm.out hm)
    have HMt := Lib.hid hm
    clear hm
    go_wp2_with fail
    refine (HWr.out _ B2.out).mono ?_
    rintro e w3 ⟨Aw, cw, rfl, hr, hb3⟩
    have B3 := Lib.hid (B2.out.trans (hb3.mono B2.out.size))
    have R3 := Lib.hid ((hb3.block _ (lt_of_block R2.out)).trans R2.out)
    have HF := Lib.hid (show SexpRes W0.heap.size w c (.returned (.tuple #[.agg #[.int .i8 3, .string { data := #[] }, .slice Aw (progL c).length cw], .int .i64 0])) (set3 w3 (w.heap.size + 1) (.int .i8 3) (.string { data := #[] }) (.slice Aw (progL c).length cw)) from by
      refine ⟨writeX c, Aw, cw, ⟨by rw [HMt.out, HLp.out]; rfl, by rw [HMt.out]; rfl⟩, fun W' hW' => ?_, (set3_keeps (S := fun _ => False) (Keeps.of_below B3.out _) (.inr (by omega)) _ _ _).none_below⟩
      have hlt := lt_of_block R2.out
      have hsz := HB0.out.size
      have h := hr W' ((set3_keeps (S := fun k => W0.heap.size ≤ k ∧ k < w2.heap.size) (Keeps.refl _ _) (.inl ⟨by omega, hlt⟩) _ _ _).trans_same (hW'.mono (fun k hk => ⟨hk.1, by omega⟩)))
      rw [HLp.out] at h
      exact h)
    obtain ⟨z0, z1, z2, zf⟩ := three_cells R3.out
    clear hr hb3
    go_wp2_with fail
    exact sexp2_ret (w := set3 w3 (w.heap.size + 1) (.int .i8 3) (.string { data := #[] }) (.slice Aw (progL c).length cw)) Tryz.results12 (three_set R3.out _ _ _) rfl rfl rfl HF.out
end Go.Proofs.YtbchcipjpcdhfaaGreatDoor.Cm
/- The writer of expressions: its builder's methods. -/
namespace Go.Proofs.YtbchcipjpcdhfaaGreatDoor.Dt
open Go.RowKit

theorem bld_size : (Tryz.prog.info? 87).map (fun i => i.size) = some 2 := by kernel_rfl
theorem bld_lies : liesAt Tryz.prog Tryz.prog.depth 89 (2 / Tryz.prog.cellsOf 87) 0 87 1 = true := by kernel_rfl
/-- the writer's builder at block b: fresh or used -/
def WB (B b : Nat) (l : List UInt8) (w : World) : Prop := Lib.IsBuilder 89 5 B b (Lib.byteCells l) w
set_option maxRecDepth 100000 in
set_option maxHeartbeats 1000000 in
theorem copy_used (b : Nat) (w : World) (h0 : w.cell? ⟨b, 0, none⟩ = some (.pointer (some ⟨b, 0, none⟩))) :
    Calls Tryz.prog 123 #[.pointer (some ⟨b, 0, none⟩)] w fun e w' => e = .returned (.tuple #[]) ∧ w' = w := by
  obtain ⟨j, hj, _⟩ := Option.map_eq_some_iff.1 bld_size
  go_enter Tryz.func123, Tryz.ntmps123
  go_wp2_with fail
  rw [Lib.run_neq_ptr_same w _ Tryz.underlying84 hj]
  go_wp2_with fail
  go_end0
  exact ⟨rfl, rfl⟩
set_option maxRecDepth 100000 in
set_option maxHeartbeats 1000000 in
theorem copy_fresh (b : Nat) (w : World) (h0 : w.cell? ⟨b, 0, none⟩ = some (.pointer none)) (hsh : w.shape? b = some (89, 2)) (hfz : w.frozen? ⟨b, 0, none⟩ = false) :
    Calls Tryz.prog 123 #[.pointer (some ⟨b, 0, none⟩)] w fun e w' => e = .returned (.tuple #[]) ∧ w' = w.setCell ⟨b, 0, none⟩ (.pointer (some ⟨b, 0, none⟩)) := by
  obtain ⟨j, hj, hjs⟩ := Option.map_eq_some_iff.1 bld_size
  go_enter Tryz.func123, Tryz.ntmps123
  go_wp2_with fail
  rw [Lib.run_to_unsafe w ⟨b, 0, none⟩ Tryz.underlying84 Tryz.underlying130 hj (by rw [hjs]; decide) hsh (Nat.zero_lt_succ 1)]
  simp only [Result.andThen]
  rw [Oper.upon_value]
  go_wp2_with fail
  rw [run_callFunc_extern Tryz.func129 (by kernel_rfl) (by kernel_rfl) (by kernel_rfl) (e := Extern.AbiNoEscape.same) (by kernel_rfl)]
  rw [Lib.run_noEscape]
  simp only [Result.andThen]
  rw [Oper.upon_value]
  go_wp2_with fail
  rw [Lib.run_from_unsafe w ⟨b, 0, none⟩ Tryz.underlying130 Tryz.underlying84 hj hsh bld_lies]
  simp only [Result.andThen]
  rw [Oper.upon_value]
  go_wp2_with fail
  go_end0
  exact ⟨rfl, rfl⟩
theorem copy_any (B b : Nat) (bs : List Value) (w : World) (h : Lib.IsBuilder 89 5 B b bs w) :
    Calls Tryz.prog 123 #[.pointer (some ⟨b, 0, none⟩)] w fun e w' => e = .returned (.tuple #[]) ∧ (Lib.BuilderAt 89 5 B b (.pointer (some ⟨b, 0, none⟩)) bs w' ∧ Below B w w') := by
  rcases h with h | h
  · refine (copy_fresh b w h.cell0 h.shape h.frozen0).mono ?_
    rintro e w' ⟨rfl, rfl⟩
    exact ⟨rfl, h.used _, (Below.refl B w).setCell (p := ⟨b, 0, none⟩) h.1 _⟩
  · refine (copy_used b w h.cell0).mono ?_
    rintro e w' ⟨rfl, rfl⟩
    exact ⟨rfl, h, Below.refl B _⟩
theorem bcells_append (l m : List UInt8) : Lib.byteCells (l ++ m) = Lib.byteCells l ++ Lib.byteCells m := by unfold Lib.byteCells; rw [List.map_append]
set_option maxRecDepth 100000 in
set_option maxHeartbeats 1000000 in
theorem blen_any (B b : Nat) (l : List UInt8) (w : World) (h : WB B b l w) :
    Calls Tryz.prog 73 #[.pointer (some ⟨b, 0, none⟩)] w fun e w' => e = .returned (.int .i64 l.length) ∧ w' = w := by
  obtain ⟨p, hB, v, hbk, hown, hne⟩ : ∃ p, Lib.BuilderAt 89 5 B b p (Lib.byteCells l) w := by
    rcases h with h | h
    · exact ⟨_, h⟩
    · exact ⟨_, h⟩
  rw [Lib.byteCells_length] at hown
  obtain ⟨ao, cap, rfl⟩ : ∃ ao cap, v = .slice ao l.length cap := by
    rcases hown.2 with ⟨hv, h0⟩ | ⟨g, cap, cur, hv, _⟩
    · exact ⟨none, 0, by rw [hv, h0]⟩
    · exact ⟨_, _, hv⟩
  have c1 : w.cell? ⟨b, 1, none⟩ = some (.slice ao l.length cap) := by rw [Lib.cell_of_heap hbk]; rfl
  clear hbk hown hne hB
  go_enter Tryz.func73, Tryz.ntmps73
  go_wp2_with fail
  go_ret
  exact ⟨rfl, rfl⟩
set_option maxRecDepth 100000 in
set_option maxHeartbeats 2000000 in
theorem wbyte_any (B b : Nat) (l : List UInt8) (c : UInt8) (w : World) (h : WB B b l w) (hlen : l.length + 1 ≤ 140737488355328) (hBw : B ≤ w.heap.size) :
    Calls Tryz.prog 114 #[.pointer (some ⟨b, 0, none⟩), .int .u8 c.toNat] w fun e w' => e = .returned .nilIface ∧ WB B b (l ++ [c]) w' ∧ Below B w w' := by
  obtain ⟨i0, hi, hz0, hz1, hz2⟩ := info_parts info_u8
  have HC := Lib.hid (copy_any B b _ w h)
  have HLl := Lib.hid (Lib.byteCells_length l)
  clear h
  generalize hc : (c.toNat : Int) = ci
  have HCi := Lib.hid hc
  clear hc
  go_enter Tryz.func114, Tryz.ntmps114
  go_wp2_with fail
  refine HC.out.mono ?_
  rintro e w1 ⟨rfl, h1, hb1⟩
  obtain ⟨hB, v, hbk, hown, hne⟩ := h1
  have c0 : w1.cell? ⟨b, 0, none⟩ = some (.pointer (some ⟨b, 0, none⟩)) := by rw [Lib.cell_of_heap hbk]; rfl
  have c1 : w1.cell? ⟨b, 1, none⟩ = some v := by rw [Lib.cell_of_heap hbk]; rfl
  have HB1 := Lib.hid hb1
  have HOw := Lib.hid hown
  have HBk := Lib.hid hbk
  have HNe := Lib.hid hne
  have HB := Lib.hid hB
  have HLen := Lib.hid (show (Lib.byteCells l).length + 1 ≤ 140737488355328 by rw [HLl.out]; exact hlen)
  clear hb1 hown hbk hne hB hlen
  go_wp2_with (at_builtin; refine wpList_append_own _ rfl _ _ 85 rfl B 5 i0 (.int .u8 0) 1 1 Tryz.underlying85 hi hz0 hz1 hz2 rfl (by decide) _ _ _ rfl (HOw.out.alloc _) ⟨w1.heap.size, 0, none⟩ 1 1 [.int .u8 ci] rfl rfl ?c1 ?c2 ?c3 ?c4 ?c5 ?_)
  case c1 =>
    intro j u hj
    match j, hj with
    | 0, hj => simp at hj; subst hj; simp [Addr.add]
  case c2 => intro u hu; simp at hu; subst hu; rfl
  case c3 => have := HLen.out; unfold maxLen; omega
  case c4 => have := HLen.out; omega
  case c5 => have := HB1.out.size; simp; omega
  intro v' w2 hown' hgrow _
  have hlt : b < w1.heap.size := (Array.getElem?_eq_some_iff.1 HBk.out).1
  have hb2 : w2.heap[b]? = some (.cells #[.pointer (some ⟨b, 0, none⟩), v] 89 (0, 0)) := by
    rw [hgrow.block b (by simp; omega) (fun e => HNe.out e.symm), Lib.alloc_old w1 _ b hlt]
    exact HBk.out
  have d0 : w2.cell? ⟨b, 0, none⟩ = some (.pointer (some ⟨b, 0, none⟩)) := by rw [Lib.cell_of_heap hb2]; rfl
  have d1 : w2.cell? ⟨b, 1, none⟩ = some v := by rw [Lib.cell_of_heap hb2]; rfl
  have f1 : w2.frozen? ⟨b, 1, none⟩ = false := Lib.frozen_of_heap hb2 1
  obtain ⟨g, cap, rfl⟩ : ∃ g cap, v' = .slice (some ⟨g, 0, none⟩) ((Lib.byteCells l).length + 1) cap := by
    rcases hown'.2 with ⟨_, h0⟩ | ⟨g, cap, cur, hv, _⟩
    · omega
    · exact ⟨g, cap, hv⟩
  have HF := Lib.hid (show WB B b (l ++ [c]) (w2.setCell ⟨b, 1, none⟩ (.slice (some ⟨g, 0, none⟩) ((Lib.byteCells l).length + 1) cap)) ∧ Below B w (w2.setCell ⟨b, 1, none⟩ (.slice (some ⟨g, 0, none⟩) ((Lib.byteCells l).length + 1) cap)) from
    ⟨.inr (by
      rw [bcells_append, show Lib.byteCells [c] = [.int .u8 ci] by rw [← HCi.out]; rfl]
      exact Lib.BuilderAt.put HB.out hb2 (bs' := Lib.byteCells l ++ [.int .u8 ci]) (by simpa using hown') (by decide)),
     ((HB1.out.alloc (by have := HB1.out.size; omega) _).grown hgrow (by have := HB1.out.size; simp; omega) (fun k hk => (HOw.out.lt k hk).1)).setCell (p := ⟨b, 1, none⟩) HB.out _⟩)
  clear hown' hgrow hb2
  go_wp2_with fail
  go_ret
  exact ⟨rfl, HF.out⟩
set_option maxRecDepth 100000 in
set_option maxHeartbeats 2000000 in
theorem wstr_any (B b : Nat) (l : List UInt8) (s : ByteArray) (w : World) (h : WB B b l w) (hlen : l.length + s.size ≤ 140737488355328) (hBw : B ≤ w.heap.size) :
    Calls Tryz.prog 112 #[.pointer (some ⟨b, 0, none⟩), .string s] w fun e w' => e = .returned (.tuple #[.int .i64 s.size, .nilIface]) ∧ WB B b (l ++ Lx.bs s) w' ∧ Below B w w' := by
  obtain ⟨i0, hi, hz0, hz1, hz2⟩ := info_parts info_u8
  have HC := Lib.hid (copy_any B b _ w h)
  have HLl := Lib.hid (Lib.byteCells_length l)
  clear h
  go_enter Tryz.func112, Tryz.ntmps112
  go_wp2_with fail
  refine HC.out.mono ?_
  rintro e w1 ⟨rfl, h1, hb1⟩
  obtain ⟨hB, v, hbk, hown, hne⟩ := h1
  have c0 : w1.cell? ⟨b, 0, none⟩ = some (.pointer (some ⟨b, 0, none⟩)) := by rw [Lib.cell_of_heap hbk]; rfl
  have c1 : w1.cell? ⟨b, 1, none⟩ = some v := by rw [Lib.cell_of_heap hbk]; rfl
  have HB1 := Lib.hid hb1
  have HOw := Lib.hid hown
  have HBk := Lib.hid hbk
  have HNe := Lib.hid hne
  have HB := Lib.hid hB
  have HLen := Lib.hid (show (Lib.byteCells l).length + s.size ≤ 140737488355328 by rw [HLl.out]; exact hlen)
  clear hb1 hown hbk hne hB hlen
  go_wp2_with (at_builtin; refine Lib.wpList_append_own_string _ rfl _ _ 85 9 rfl B 5 i0 Tryz.underlying85 Tryz.underlying9 hi hz0 hz1 hz2 _ _ _ rfl HOw.out s rfl ?c3 ?c4 ?c5 ?_)
  case c3 => have := HLen.out; unfold maxLen; omega
  case c4 => have := HLen.out; omega
  case c5 => have := HB1.out.size; omega
  intro v' w2 hown' hgrow _
  have hlt : b < w1.heap.size := (Array.getElem?_eq_some_iff.1 HBk.out).1
  have hb2 : w2.heap[b]? = some (.cells #[.pointer (some ⟨b, 0, none⟩), v] 89 (0, 0)) := by
    rw [hgrow.block b hlt (fun e => HNe.out e.symm)]
    exact HBk.out
  have d0 : w2.cell? ⟨b, 0, none⟩ = some (.pointer (some ⟨b, 0, none⟩)) := by rw [Lib.cell_of_heap hb2]; rfl
  have d1 : w2.cell? ⟨b, 1, none⟩ = some v := by rw [Lib.cell_of_heap hb2]; rfl
  have f1 : w2.frozen? ⟨b, 1, none⟩ = false := Lib.frozen_of_heap hb2 1
  obtain ⟨ao, n', cap, rfl⟩ : ∃ ao n' cap, v' = .slice ao n' cap := by
    rcases hown'.2 with ⟨hv, _⟩ | ⟨g, cap, cur, hv, _⟩
    · exact ⟨_, _, _, hv⟩
    · exact ⟨_, _, _, hv⟩
  have HF := Lib.hid (show WB B b (l ++ Lx.bs s) (w2.setCell ⟨b, 1, none⟩ (.slice ao n' cap)) ∧ Below B w (w2.setCell ⟨b, 1, none⟩ (.slice ao n' cap)) from
    ⟨.inr (by
      rw [bcells_append, show Lib.byteCells (Lx.bs s) = Lib.strCells s from rfl]
      exact Lib.BuilderAt.put HB.out hb2 (bs' := Lib.byteCells l ++ Lib.strCells s) (by simpa [Lib.strCells_length] using hown') (by decide)),
     (HB1.out.grown hgrow (by have := HB1.out.size; omega) (fun k hk => (HOw.out.lt k hk).1)).setCell (p := ⟨b, 1, none⟩) HB.out _⟩)
  clear hown' hgrow hb2
  go_wp2_with fail
  go_ret2
  exact ⟨rfl, HF.out⟩
theorem u8_cells : Tryz.prog.cellsOf 5 = 1 := by kernel_rfl
set_option maxRecDepth 100000 in
set_option maxHeartbeats 2000000 in
theorem bstring_any (B b : Nat) (l : List UInt8) (w : World) (h : WB B b l w) (h0 : l ≠ []) :
    Calls Tryz.prog 74 #[.pointer (some ⟨b, 0, none⟩)] w fun e w' => e = .returned (.string ⟨l.toArray⟩) ∧ Below B w w' := by
  obtain ⟨p, hB, v, hbk, hown, hne⟩ : ∃ p, Lib.BuilderAt 89 5 B b p (Lib.byteCells l) w := by
    rcases h with h | h
    · exact ⟨_, h⟩
    · exact ⟨_, h⟩
  have hl0 : l.length ≠ 0 := by simpa using h0
  rw [Lib.byteCells_length] at hown
  obtain ⟨g, cap, cur, rfl, hbg, hg, hnc, hcm, hcs, htake⟩ : ∃ g cap cur, v = .slice (some ⟨g, 0, none⟩) l.length cap ∧ B ≤ g ∧ w.heap[g]? = some (.cells cur 5 (0, 0)) ∧ l.length ≤ cap ∧ cap ≤ maxLen ∧ cur.size = cap * 1 ∧ cur.toList.take (l.length * 1) = Lib.byteCells l := by
    rcases hown.2 with ⟨_, hz⟩ | ⟨g, cap, cur, hv, r⟩
    · exact absurd hz hl0
    · exact ⟨g, cap, cur, hv, r⟩
  have c1 : w.drew.cell? ⟨b, 1, none⟩ = some (.slice (some ⟨g, 0, none⟩) l.length cap) := by
    have : w.drew.heap[b]? = some (.cells #[p, .slice (some ⟨g, 0, none⟩) l.length cap] 89 (0, 0)) := hbk
    rw [Lib.cell_of_heap this]; rfl
  have hSD : (Builtin.unsafeSliceData_ #[85] 108 #[.slice (some ⟨g, 0, none⟩) l.length cap]).run Tryz.prog w.drew = .ok (.pointer (some ⟨g, 0, none⟩)) w.drew :=
    Lib.run_unsafeSliceData_row _ _ _ _ _ _ (by omega)
  have hUS : (Builtin.unsafeString_ #[108, 3] 9 #[.pointer (some ⟨g, 0, none⟩), .int .i64 l.length]).run Tryz.prog w.drew = .ok (.string ⟨l.toArray⟩) (w.drew.freeze ⟨g, 0, none⟩ l.length) := by
    refine Lib.run_unsafeString_row w.drew 108 3 9 5 Tryz.underlying108 u8_cells g cur.size (by have hg' : w.drew.heap[g]? = some (.cells cur 5 (0, 0)) := hg; simp [World.shape?, hg']) l h0 (by omega) (by unfold maxLen at hcm; omega) ?_
    intro j x hx
    have := hown.cells (g := g) rfl j (.int .u8 x.toNat) (by simp [Lib.byteCells, hx])
    exact this
  have HBG := Lib.hid hbg
  clear hbk hown hne hg hnc hcm hcs htake hl0 h hbg hB
  go_enter Tryz.func74, Tryz.ntmps74
  go_wp2_with fail
  go_region_with fail
  all_goals
    go_wp2_with fail
    go_ret
    exact ⟨rfl, Lib.below_freeze (Below.drew (Below.refl B w)) (p := ⟨g, 0, none⟩) HBG.out _⟩
end Go.Proofs.YtbchcipjpcdhfaaGreatDoor.Dt
