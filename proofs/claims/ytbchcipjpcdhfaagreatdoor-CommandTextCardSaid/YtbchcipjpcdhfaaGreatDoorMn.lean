import Derived.Test.YtbchcipjpcdhfaaGreatDoorMd
import Derived.Test.YtbchcipjpcdhfaaGreatDoorMe
import Derived.Test.YtbchcipjpcdhfaaGreatDoorMm
import Derived.Deep.RegionHeld3
import Derived.Deep.Cut
/- merged by wip/merge.py from: SexpSame CmdEq RSame -/
/- Two expressions: are they the same? The program's answer. -/
namespace Go.Proofs.YtbchcipjpcdhfaaGreatDoor.Dt
open Go.RowKit

def SameAt (y : Sexp) : Prop := ∀ (W : World) (A : Option Addr) (c : Nat) (z : Sexp) (B : Option Addr) (d : Nat), SexpR W [.int .i8 y.kind, .string y.text, .slice A y.l.length c] y → SexpR W [.int .i8 z.kind, .string z.text, .slice B z.l.length d] z →
  Calls Tryz.prog 47 #[.agg #[.int .i8 y.kind, .string y.text, .slice A y.l.length c], .agg #[.int .i8 z.kind, .string z.text, .slice B z.l.length d]] W fun e w' => e = .returned (.bool (eqB y z)) ∧ Below W.heap.size W w'
set_option maxHeartbeats 1600000 in
theorem eqSexps_any (xs ys : List Sexp) (hs : ∀ y ∈ xs, SameAt y) (w : World) (A B : Option Addr) (c d : Nat) (hx : Lies 3 SexpR w A xs) (hy : Lies 3 SexpR w B ys) (_ : (xs.length : Int) ≤ 140737488351232) (_ : (ys.length : Int) ≤ 140737488351232) :
    Calls Tryz.prog 46 #[.slice A xs.length c, .slice B ys.length d, .func (.func 47) #[] #[]] w fun e w' => e = .returned (.bool (eqB xs ys)) ∧ Below w.heap.size w w' := by
  by_cases hq : xs.length = ys.length
  · have hq2 : ((xs.length : Int) != (ys.length : Int)) = false := by simp; omega
    have HE := Lib.hid (eqB_full hq)
    have HX := Lib.hid hx
    have HYs := Lib.hid hy
    have HSm := Lib.hid hs
    have hle : ys.length ≤ xs.length := by omega
    have hle' : xs.length ≤ ys.length := by omega
    clear hq hx hy hs
    go_enter Tryz.func46, Tryz.ntmps46
    go_wp2_with fail
    go_loopw [17] (fun v wr => ∃ k : Nat, k ≤ xs.length ∧ v = .int .i64 k ∧ xs.take k = ys.take k ∧ Below w.heap.size w wr) (fun v _ => xs.length - (intOf v).toNat)
    case atStart => exact ⟨0, Nat.zero_le _, rfl, by simp, Below.refl _ _⟩
    case round =>
      obtain ⟨k, hk, rfl, ht, hb⟩ := hrel
      have HT := Lib.hid ht
      have HB := Lib.hid hb
      clear ht
      by_cases hlt : k < xs.length
      · have hlt2 : (k : Int) < (xs.length : Int) := by omega
        have hltm : (k : Int) < (ys.length : Int) := by omega
        have hyk := List.getElem?_eq_getElem hlt
        have hym := List.getElem_mem hlt
        have hzk := List.getElem?_eq_getElem (show k < ys.length by omega)
        generalize xs[k] = y at hyk hym
        generalize ys[k]'_ = z at hzk
        obtain ⟨b, o, A', c', rfl, hbl, e0, e1, e2, hr⟩ := sexp_cells (HX.out.on SexpR.lasts hb) hyk
        obtain ⟨b', o', B', d', rfl, hbl', g0, g1, g2, hr'⟩ := sexp_cells (HYs.out.on SexpR.lasts hb) hzk
        have HY := Lib.hid (fun W (hW : Below wr.heap.size wr W) => HSm.out y hym W A' c' z B' d' (SexpR.lasts _ _ _ _ hW hr) (SexpR.lasts _ _ _ _ hW hr'))
        have HS := Lib.hid (eqB_next hyk hzk)
        have hsz := hb.size
        have W1 := Lib.hid ((Below.refl wr.heap.size wr).alloc (Nat.le_refl _) (.cells #[.int .i8 y.kind, .string y.text, .slice A' y.l.length c'] 25))
        obtain ⟨q0, q1, q2, _⟩ := box_cells wr (.int .i8 y.kind) (.string y.text) (.slice A' y.l.length c') 25
        have z0 := (W1.out.cell (p := ⟨b', o' + k * 3, none⟩) hbl').trans g0
        have z1 := (W1.out.cell (p := ⟨b', o' + k * 3 + 1, none⟩) hbl').trans g1
        have z2 := (W1.out.cell (p := ⟨b', o' + k * 3 + 2, none⟩) hbl').trans g2
        clear hb hr hr' hyk hzk hym
        go_wp2_with fail
        refine (HY.out _ (((Below.refl _ _).alloc (Nat.le_refl _) _).alloc (by simp) _)).mono ?_
        rintro e w2 ⟨rfl, hb2⟩
        have HB2 := Lib.hid (((HB.out.alloc HB.out.size _).alloc (by simp; omega) _).trans (hb2.mono (by simp; omega)))
        clear hb2
        by_cases he : y = z
        · have HN := Lib.hid (HS.out.1 he HT.out)
          rw [eqB_true.2 he]
          go_wp2_with fail
          go_roundw
          case rel => exact ⟨k + 1, by omega, by go_num, HN.out, HB2.out⟩
          case measure => simp [intOf]; omega
        · have HN := Lib.hid (HS.out.2 he)
          rw [eqB_false.2 he]
          go_wp2_with fail
          go_ret
          exact ⟨ret_bool HN.out.symm, HB2.out⟩
      · obtain rfl : k = xs.length := by omega
        have HN := Lib.hid (HE.out HT.out)
        clear hb
        go_wp2_with fail
        go_ret
        exact ⟨ret_bool HN.out.symm, HB.out⟩
  · have hq2 : ((xs.length : Int) != (ys.length : Int)) = true := by simp; omega
    have HN := Lib.hid (eqB_len hq)
    clear hq hx hy hs
    go_enter Tryz.func46, Tryz.ntmps46
    go_wp2_with fail
    go_ret
    exact ⟨ret_bool HN.out.symm, Below.refl _ _⟩
set_option maxRecDepth 100000 in
set_option maxHeartbeats 3200000 in
theorem same_any : ∀ (n : Nat) (y : Sexp), SizeOf.sizeOf y < n → SameAt y := by
  intro n
  induction n with
  | zero => intro x hx; omega
  | succ n ih =>
    intro y hy W A c z B d hr hr'
    have HM := fun x (hx : x ∈ y.l) => ih x (by have := Sexp.mem_lt hx; omega)
    obtain ⟨A0, c0, e0, hl, _, _, _, hlb, _⟩ := hr.open'
    simp only [List.cons.injEq, Value.slice.injEq, and_true, true_and] at e0
    obtain ⟨rfl, rfl⟩ := e0
    obtain ⟨B0, d0, e0, hl', _, _, _, hlb', _⟩ := hr'.open'
    simp only [List.cons.injEq, Value.slice.injEq, and_true, true_and] at e0
    obtain ⟨rfl, rfl⟩ := e0
    have HF := Lib.hid (fun W' (hW : Below W.heap.size W W') => eqSexps_any y.l z.l HM W' A B c d (hl.on SexpR.lasts hW) (hl'.on SexpR.lasts hW) (by omega) (by omega))
    have HE := Lib.hid (eqB_sexp y z)
    have HB := Lib.hid (((Below.refl W.heap.size W).alloc (Nat.le_refl _) (.cells #[.int .i8 y.kind, .string y.text, .slice A y.l.length c] 25)).alloc (by simp) (.cells #[.int .i8 z.kind, .string z.text, .slice B z.l.length d] 25))
    generalize eqB y z = r at *
    generalize eqB y.l z.l = rl at *
    generalize y.l.length = ln at *
    generalize z.l.length = lm at *
    generalize y.kind = yk at *
    generalize z.kind = zk at *
    generalize y.text = yt at *
    generalize z.text = zt at *
    clear hr hr' hl hl' HM ih hy
    by_cases h1 : yk = zk
    · have h1' : (yk == zk) = true := by simp [h1]
      by_cases h2 : yt = zt
      · have h2' : (yt.toList == zt.toList) = true := by simp [h2]
        have HR : r = rl := by rw [HE.out, eqB_true.2 h1, eqB_true.2 h2]; simp
        subst HR
        clear HE
        subst h1
        subst h2
        go_enter Tryz.func47, Tryz.ntmps47
        go_wp2_with fail
        refine (HF.out _ HB.out).mono ?_
        rintro e w2 ⟨rfl, hb2⟩
        have HB2 := Lib.hid (HB.out.trans (hb2.mono HB.out.size))
        clear hb2
        go_wp2_with fail
        go_ret
        exact ⟨rfl, HB2.out⟩
      · have h2' : (yt.toList == zt.toList) = false := by
          rw [beq_eq_false_iff_ne]; intro e
          rw [Lx.bs_toList, Lx.bs_toList] at e
          exact h2 (ByteArray.ext (Array.toList_inj.1 e))
        have HR : r = false := by rw [HE.out, eqB_false.2 h2]; simp
        subst HR
        clear HE
        subst h1
        go_enter Tryz.func47, Tryz.ntmps47
        go_wp2_with fail
        go_ret
        exact ⟨rfl, HB.out⟩
    · have h1' : (yk == zk) = false := beq_eq_false_iff_ne.2 h1
      have HR : r = false := by rw [HE.out, eqB_false.2 h1]; simp
      subst HR
      go_enter Tryz.func47, Tryz.ntmps47
      go_wp2_with fail
      go_ret
      exact ⟨rfl, HB.out⟩
end Go.Proofs.YtbchcipjpcdhfaaGreatDoor.Dt
/- Two commands: are they the same? The program's answer; May, Sexp. -/
namespace Go.Proofs.YtbchcipjpcdhfaaGreatDoor.Cm
open Go.RowKit Go.Proofs.YtbchcipjpcdhfaaGreatDoor.Dt

theorem beq_eqB (a b : Int) : (a == b) = eqB a b := by rw [eqB_int]; rfl
theorem bytes_eqB (a b : ByteArray) : (a.toList == b.toList) = eqB a b := by
  by_cases h : a = b
  · rw [eqB_true.2 h]; simp [h]
  · rw [eqB_false.2 h]; exact bytes_ne h
theorem ints_cells {w : World} {A : Option Addr} {l : List Int} (h : Lies 1 (IntR .i64) w A l) : Cells w A (l.map (Value.int .i64)) := Lies.one (h.imp rfl fun i x y vs hx hy hr => by rw [hx] at hy; obtain rfl := Option.some.inj hy; exact hr.1)
set_option maxHeartbeats 6400000 in
theorem csame_any {w : World} {a b : Cmd} {A1 A2 A3 A4 B1 B2 B3 B4 : Option Addr} {c1 c2 c3 c4 d1 d2 d3 d4 : Nat} (ha : CmdAt w A1 c1 A2 c2 A3 c3 A4 c4 a) (hb : CmdAt w B1 d1 B2 d2 B3 d3 B4 d4 b) :
    Calls Tryz.prog 19 #[agC A1 c1 A2 c2 A3 c3 A4 c4 a, agC B1 d1 B2 d2 B3 d3 B4 d4 b] w fun e w' => e = .returned (.bool (eqB a b)) ∧ Below w.heap.size w w' := by
  have HE := Lib.hid (eqB_cmd a b)
  have HBx := Lib.hid (((Below.refl w.heap.size w).alloc (Nat.le_refl _) (.cells #[.int .i8 a.kind, .string a.name, .int .i64 a.n, .slice A1 a.l.length c1, .slice A2 a.args.length c2, .slice A3 a.params.length c3, .string a.res, .slice A4 a.terms.length c4] 32)).alloc (by simp) (.cells #[.int .i8 b.kind, .string b.name, .int .i64 b.n, .slice B1 b.l.length d1, .slice B2 b.args.length d2, .slice B3 b.params.length d3, .string b.res, .slice B4 b.terms.length d4] 32))
  have NA := Lib.hid (show ((w.alloc (.cells #[.int .i8 a.kind, .string a.name, .int .i64 a.n, .slice A1 a.l.length c1, .slice A2 a.args.length c2, .slice A3 a.params.length c3, .string a.res, .slice A4 a.terms.length c4] 32)).alloc (.cells #[.int .i8 b.kind, .string b.name, .int .i64 b.n, .slice B1 b.l.length d1, .slice B2 b.args.length d2, .slice B3 b.params.length d3, .string b.res, .slice B4 b.terms.length d4] 32)).heap[w.heap.size]? = _ from (Below.heap_alloc _ _ _ (by simp)).trans (blk_new w (.cells #[.int .i8 a.kind, .string a.name, .int .i64 a.n, .slice A1 a.l.length c1, .slice A2 a.args.length c2, .slice A3 a.params.length c3, .string a.res, .slice A4 a.terms.length c4] 32)))
  have NB := Lib.hid (show ((w.alloc (.cells #[.int .i8 a.kind, .string a.name, .int .i64 a.n, .slice A1 a.l.length c1, .slice A2 a.args.length c2, .slice A3 a.params.length c3, .string a.res, .slice A4 a.terms.length c4] 32)).alloc (.cells #[.int .i8 b.kind, .string b.name, .int .i64 b.n, .slice B1 b.l.length d1, .slice B2 b.args.length d2, .slice B3 b.params.length d3, .string b.res, .slice B4 b.terms.length d4] 32)).heap[w.heap.size + 1]? = some (.cells #[.int .i8 b.kind, .string b.name, .int .i64 b.n, .slice B1 b.l.length d1, .slice B2 b.args.length d2, .slice B3 b.params.length d3, .string b.res, .slice B4 b.terms.length d4] 32) from by
    have hh := blk_new (w.alloc (.cells #[.int .i8 a.kind, .string a.name, .int .i64 a.n, .slice A1 a.l.length c1, .slice A2 a.args.length c2, .slice A3 a.params.length c3, .string a.res, .slice A4 a.terms.length c4] 32)) (.cells #[.int .i8 b.kind, .string b.name, .int .i64 b.n, .slice B1 b.l.length d1, .slice B2 b.args.length d2, .slice B3 b.params.length d3, .string b.res, .slice B4 b.terms.length d4] 32)
    have e : (w.alloc (.cells #[.int .i8 a.kind, .string a.name, .int .i64 a.n, .slice A1 a.l.length c1, .slice A2 a.args.length c2, .slice A3 a.params.length c3, .string a.res, .slice A4 a.terms.length c4] 32)).heap.size = w.heap.size + 1 := by simp
    rw [e] at hh
    exact hh)
  have h1 : (a.l.length : Int) ≤ 9223372036854775807 ∧ (b.l.length : Int) ≤ 9223372036854775807 := by have := ha.l1; have := ha.m1; have := hb.l1; have := hb.m1; unfold maxLen at *; omega
  have h2 : (a.args.length : Int) ≤ 9223372036854775807 ∧ (b.args.length : Int) ≤ 9223372036854775807 := by have := ha.l2; have := ha.m2; have := hb.l2; have := hb.m2; unfold maxLen at *; omega
  have h3 : (a.params.length : Int) ≤ 9223372036854775807 ∧ (b.params.length : Int) ≤ 9223372036854775807 := by have := ha.l3; have := ha.m3; have := hb.l3; have := hb.m3; unfold maxLen at *; omega
  have h4 : (a.terms.length : Int) ≤ 140737488351232 ∧ (b.terms.length : Int) ≤ 140737488351232 := by have := ha.b4; have := hb.b4; omega
  have H1 := Lib.hid (fun W (hW : Below w.heap.size w W) => eqInts_any a.l b.l W A1 B1 c1 d1 (ints_cells (ha.l.on (IntR.lasts _) hW)) (ints_cells (hb.l.on (IntR.lasts _) hW)) h1.1 h1.2)
  have H2 := Lib.hid (fun W (hW : Below w.heap.size w W) => eqStrs_any a.args b.args W A2 B2 c2 d2 (ha.args.on StrR.lasts hW) (hb.args.on StrR.lasts hW) h2.1 h2.2)
  have H3 := Lib.hid (fun W (hW : Below w.heap.size w W) => eqPairs_any a.params b.params W A3 B3 c3 d3 (ha.params.on PairR.lasts hW) (hb.params.on PairR.lasts hW) h3.1 h3.2)
  have H4 := Lib.hid (fun W (hW : Below w.heap.size w W) => eqSexps_any a.terms b.terms (fun y _ => same_any _ y (Nat.lt_succ_self _)) W A4 B4 c4 d4 (ha.terms.on SexpR.lasts hW) (hb.terms.on SexpR.lasts hW) h4.1 h4.2)
  clear h1 h2 h3 h4 ha hb
  have p1 := beq_eqB a.kind b.kind
  have p2 := bytes_eqB a.name b.name
  have p3 := beq_eqB a.n b.n
  have p4 := bytes_eqB a.res b.res
  generalize eqB a b = r at *
  generalize eqB a.kind b.kind = e1 at *
  generalize eqB a.name b.name = e2 at *
  generalize eqB a.n b.n = e3 at *
  generalize eqB a.res b.res = e4 at *
  generalize eqB a.l b.l = e5 at *
  generalize eqB a.args b.args = e6 at *
  generalize eqB a.params b.params = e7 at *
  generalize eqB a.terms b.terms = e8 at *
  unfold agC
  go_enter Tryz.func19, Tryz.ntmps19
  go_upto_region 1 with fail
  generalize ((w.alloc (.cells #[.int .i8 a.kind, .string a.name, .int .i64 a.n, .slice A1 a.l.length c1, .slice A2 a.args.length c2, .slice A3 a.params.length c3, .string a.res, .slice A4 a.terms.length c4] 32)).alloc (.cells #[.int .i8 b.kind, .string b.name, .int .i64 b.n, .slice B1 b.l.length d1, .slice B2 b.args.length d2, .slice B3 b.params.length d3, .string b.res, .slice B4 b.terms.length d4] 32)) = w2 at *
  obtain ⟨n0, n1, n2, n3, n4, n5, n6, n7, nf⟩ := eight_cells NA.out
  obtain ⟨m0, m1, m2, m3, m4, m5, m6, m7, mf⟩ := eight_cells NB.out
  cases e1 with
  | false =>
    have HR := Lib.hid (show r = false by rw [HE.out]; rfl)
    go_wp2_with fail
    go_ret
    exact ⟨ret_bool HR.out.symm, HBx.out⟩
  | true =>
    cases e2 with
    | false =>
      have HR := Lib.hid (show r = false by rw [HE.out]; rfl)
      go_wp2_with fail
      go_ret
      exact ⟨ret_bool HR.out.symm, HBx.out⟩
    | true =>
      cases e3 with
      | false =>
        have HR := Lib.hid (show r = false by rw [HE.out]; rfl)
        go_wp2_with fail
        go_ret
        exact ⟨ret_bool HR.out.symm, HBx.out⟩
      | true =>
        cases e4 with
        | false =>
          have HR := Lib.hid (show r = false by rw [HE.out]; rfl)
          go_wp2_with fail
          go_ret
          exact ⟨ret_bool HR.out.symm, HBx.out⟩
        | true =>
          go_wp2_with fail
          refine (H1.out _ HBx.out).mono ?_
          rintro e u1 ⟨rfl, hb⟩
          have Bu1 := Lib.hid (HBx.out.trans (hb.mono HBx.out.size))
          have NA1 := Lib.hid ((hb.block _ (lt_of_block NA.out)).trans NA.out)
          have NB1 := Lib.hid ((hb.block _ (lt_of_block NB.out)).trans NB.out)
          clear hb n0 n1 n2 n3 n4 n5 n6 n7 nf m0 m1 m2 m3 m4 m5 m6 m7 mf
          obtain ⟨n0, n1, n2, n3, n4, n5, n6, n7, nf⟩ := eight_cells NA1.out
          obtain ⟨m0, m1, m2, m3, m4, m5, m6, m7, mf⟩ := eight_cells NB1.out
          cases e5 with
          | false =>
            have HR := Lib.hid (show r = false by rw [HE.out]; rfl)
            go_wp2_with fail
            go_ret
            exact ⟨ret_bool HR.out.symm, Bu1.out⟩
          | true =>
            go_wp2_with fail
            refine (H2.out _ Bu1.out).mono ?_
            rintro e u2 ⟨rfl, hb⟩
            have Bu2 := Lib.hid (Bu1.out.trans (hb.mono Bu1.out.size))
            have NA2 := Lib.hid ((hb.block _ (lt_of_block NA1.out)).trans NA1.out)
            have NB2 := Lib.hid ((hb.block _ (lt_of_block NB1.out)).trans NB1.out)
            clear hb n0 n1 n2 n3 n4 n5 n6 n7 nf m0 m1 m2 m3 m4 m5 m6 m7 mf
            obtain ⟨n0, n1, n2, n3, n4, n5, n6, n7, nf⟩ := eight_cells NA2.out
            obtain ⟨m0, m1, m2, m3, m4, m5, m6, m7, mf⟩ := eight_cells NB2.out
            cases e6 with
            | false =>
              have HR := Lib.hid (show r = false by rw [HE.out]; rfl)
              go_wp2_with fail
              go_ret
              exact ⟨ret_bool HR.out.symm, Bu2.out⟩
            | true =>
              go_wp2_with fail
              refine (H3.out _ Bu2.out).mono ?_
              rintro e u3 ⟨rfl, hb⟩
              have Bu3 := Lib.hid (Bu2.out.trans (hb.mono Bu2.out.size))
              have NA3 := Lib.hid ((hb.block _ (lt_of_block NA2.out)).trans NA2.out)
              have NB3 := Lib.hid ((hb.block _ (lt_of_block NB2.out)).trans NB2.out)
              clear hb n0 n1 n2 n3 n4 n5 n6 n7 nf m0 m1 m2 m3 m4 m5 m6 m7 mf
              obtain ⟨n0, n1, n2, n3, n4, n5, n6, n7, nf⟩ := eight_cells NA3.out
              obtain ⟨m0, m1, m2, m3, m4, m5, m6, m7, mf⟩ := eight_cells NB3.out
              cases e7 with
              | false =>
                have HR := Lib.hid (show r = false by rw [HE.out]; rfl)
                go_wp2_with fail
                go_ret
                exact ⟨ret_bool HR.out.symm, Bu3.out⟩
              | true =>
                go_wp2_with fail
                refine (H4.out _ Bu3.out).mono ?_
                rintro e u4 ⟨rfl, hb⟩
                have Bu4 := Lib.hid (Bu3.out.trans (hb.mono Bu3.out.size))
                have NA4 := Lib.hid ((hb.block _ (lt_of_block NA3.out)).trans NA3.out)
                have NB4 := Lib.hid ((hb.block _ (lt_of_block NB3.out)).trans NB3.out)
                clear hb n0 n1 n2 n3 n4 n5 n6 n7 nf m0 m1 m2 m3 m4 m5 m6 m7 mf
                obtain ⟨n0, n1, n2, n3, n4, n5, n6, n7, nf⟩ := eight_cells NA4.out
                obtain ⟨m0, m1, m2, m3, m4, m5, m6, m7, mf⟩ := eight_cells NB4.out
                have HR := Lib.hid (show r = e8 by rw [HE.out]; rfl)
                go_wp2_with fail
                go_ret
                exact ⟨ret_bool HR.out.symm, Bu4.out⟩
end Go.Proofs.YtbchcipjpcdhfaaGreatDoor.Cm
/- Two expressions: are they the same? The document's answer. -/
namespace Go.Proofs.YtbchcipjpcdhfaaGreatDoor.Dt
open Go.RowKit

theorem blk_at (w : World) (o : Obj) : (w.alloc o).heap[w.heap.size]? = some o := Array.getElem?_push_size
theorem cells_three {w : World} {b : Nat} {a0 a1 a2 : Value} {t : TypeId} (h : w.heap[b]? = some (.cells #[a0, a1, a2] t (0, 0))) : w.cell? ⟨b, 0, none⟩ = some a0 ∧ w.cell? ⟨b, 1, none⟩ = some a1 ∧ w.cell? ⟨b, 2, none⟩ = some a2 :=
  ⟨by rw [cell_of_cells h]; rfl, by rw [cell_of_cells h]; rfl, by rw [cell_of_cells h]; rfl⟩
def RSameAt (y : Sexp) : Prop := ∀ (W : World) (A : Option Addr) (c : Nat) (z : Sexp) (B : Option Addr) (d : Nat), SexpR W [.int .i8 y.kind, .string y.text, .slice A y.l.length c] y → SexpR W [.int .i8 z.kind, .string z.text, .slice B z.l.length d] z →
  Calls Tryz.prog 18 #[.agg #[.int .i8 y.kind, .string y.text, .slice A y.l.length c], .agg #[.int .i8 z.kind, .string z.text, .slice B z.l.length d]] W fun e w' => e = .returned (.bool (eqB y z)) ∧ Below W.heap.size W w'
theorem int_ne_eqB (a b : Int) : (a != b) = !eqB a b := by rw [eqB_int, bne]; rfl
theorem txt_ne_eqB (a b : ByteArray) : (a.toList != b.toList) = !eqB a b := by
  rw [bne]
  by_cases h : a = b
  · rw [eqB_true.2 h]; simp [h]
  · rw [eqB_false.2 h]
    have : (a.toList == b.toList) = false := by
      rw [beq_eq_false_iff_ne]; intro e
      rw [Lx.bs_toList, Lx.bs_toList] at e
      exact h (ByteArray.ext (Array.toList_inj.1 e))
    rw [this]
theorem txt_eq_eqB (a b : ByteArray) : (a.toList == b.toList) = eqB a b := by
  have := txt_ne_eqB a b
  rw [bne] at this
  have h2 := congrArg Bool.not this
  simpa using h2
set_option maxRecDepth 100000 in
set_option maxHeartbeats 6400000 in
theorem rsame_all : ∀ (n : Nat) (y : Sexp), SizeOf.sizeOf y < n → RSameAt y := by
  intro n
  induction n with
  | zero => intro x hx; omega
  | succ n ih =>
    intro y hy W A c z B d hr hr'
    have HM := Lib.hid (fun x (hx : x ∈ y.l) => ih x (by have := Sexp.mem_lt hx; omega))
    obtain ⟨A0, c0, e0, hl, _, _, _, hlb, _⟩ := hr.open'
    simp only [List.cons.injEq, Value.slice.injEq, and_true, true_and] at e0
    obtain ⟨rfl, rfl⟩ := e0
    obtain ⟨B0, d0, e0, hl', _, _, _, hlb', _⟩ := hr'.open'
    simp only [List.cons.injEq, Value.slice.injEq, and_true, true_and] at e0
    obtain ⟨rfl, rfl⟩ := e0
    have HE := Lib.hid (eqB_sexp y z)
    have HX := Lib.hid hl
    have HZ := Lib.hid hl'
    have HB := Lib.hid (((Below.refl W.heap.size W).alloc (Nat.le_refl _) (.cells #[.int .i8 y.kind, .string y.text, .slice A y.l.length c] 25)).alloc (by simp) (.cells #[.int .i8 z.kind, .string z.text, .slice B z.l.length d] 25))
    have NA := Lib.hid (show ((W.alloc (.cells #[.int .i8 y.kind, .string y.text, .slice A y.l.length c] 25)).alloc (.cells #[.int .i8 z.kind, .string z.text, .slice B z.l.length d] 25)).heap[W.heap.size]? = _ from (Below.heap_alloc _ _ _ (by simp)).trans (blk_at W (.cells #[.int .i8 y.kind, .string y.text, .slice A y.l.length c] 25)))
    have NB := Lib.hid (show ((W.alloc (.cells #[.int .i8 y.kind, .string y.text, .slice A y.l.length c] 25)).alloc (.cells #[.int .i8 z.kind, .string z.text, .slice B z.l.length d] 25)).heap[W.heap.size + 1]? = some (.cells #[.int .i8 z.kind, .string z.text, .slice B z.l.length d] 25 (0, 0)) from by
      have hh := blk_at (W.alloc (.cells #[.int .i8 y.kind, .string y.text, .slice A y.l.length c] 25)) (.cells #[.int .i8 z.kind, .string z.text, .slice B z.l.length d] 25)
      have e : (W.alloc (.cells #[.int .i8 y.kind, .string y.text, .slice A y.l.length c] 25)).heap.size = W.heap.size + 1 := by simp
      rw [e] at hh
      exact hh)
    have p1 := int_ne_eqB y.kind z.kind
    have p2 := txt_eq_eqB y.text z.text
    have p2' := txt_ne_eqB y.text z.text
    have HLe := Lib.hid (fun (h : ¬ y.l.length = z.l.length) => eqB_len (xs := y.l) (ys := z.l) h)
    have HFu := Lib.hid (fun (h : y.l.length = z.l.length) => eqB_full (xs := y.l) (ys := z.l) h)
    have HNx := Lib.hid (fun k a b (h1 : y.l[k]? = some a) (h2 : z.l[k]? = some b) => eqB_next (xs := y.l) (ys := z.l) h1 h2)
    generalize eqB y z = r at *
    generalize eqB y.l z.l = rl at *
    generalize eqB y.kind z.kind = e1 at *
    generalize eqB y.text z.text = e2 at *
    generalize y.l = xs at *
    generalize z.l = ys at *
    generalize y.kind = yk at *
    generalize z.kind = zk at *
    generalize y.text = yt at *
    generalize z.text = zt at *
    clear hr hr' hl hl' ih hy
    go_enter Tryz.func18, Tryz.ntmps18
    go_upto_region 1 with fail
    generalize ((W.alloc (.cells #[.int .i8 yk, .string yt, .slice A xs.length c] 25)).alloc (.cells #[.int .i8 zk, .string zt, .slice B ys.length d] 25)) = w2 at *
    obtain ⟨n0, n1, n2⟩ := cells_three NA.out
    obtain ⟨m0, m1, m2⟩ := cells_three NB.out
    cases e1 with
    | false =>
      have HR := Lib.hid (show r = false by rw [HE.out]; rfl)
      go_wp2_with fail
      go_ret
      exact ⟨ret_bool HR.out.symm, HB.out⟩
    | true =>
      cases e2 with
      | false =>
        have HR := Lib.hid (show r = false by rw [HE.out]; rfl)
        go_wp2_with fail
        go_ret
        exact ⟨ret_bool HR.out.symm, HB.out⟩
      | true =>
        by_cases hq : xs.length = ys.length
        · have hq2 : ((xs.length : Int) != (ys.length : Int)) = false := by simp; omega
          have HR := Lib.hid (show r = rl by rw [HE.out]; rfl)
          have HF := Lib.hid (HFu.out hq)
          have hle : ys.length ≤ xs.length := by omega
          have hle' : xs.length ≤ ys.length := by omega
          clear hq HFu HLe
          go_wp2_with fail
          clear n0 n1 n2 m0 m1 m2
          go_loopw [5] (fun v wr => ∃ k : Nat, k ≤ xs.length ∧ v = .int .i64 k ∧ xs.take k = ys.take k ∧ Below w2.heap.size w2 wr) (fun v _ => xs.length - (intOf v).toNat)
          case atStart => exact ⟨0, Nat.zero_le _, rfl, by simp, Below.refl _ _⟩
          case round =>
            obtain ⟨k, hk, rfl, ht, hb⟩ := hrel
            have HT := Lib.hid ht
            have HBr := Lib.hid hb
            have HBW := Lib.hid (HB.out.trans (hb.mono HB.out.size))
            obtain ⟨n0, n1, n2⟩ := cells_three ((hb.block _ (lt_of_block NA.out)).trans NA.out)
            obtain ⟨m0, m1, m2⟩ := cells_three ((hb.block _ (lt_of_block NB.out)).trans NB.out)
            have hla := Nat.lt_of_lt_of_le (lt_of_block NA.out) hb.size
            have hlb2 := Nat.lt_of_lt_of_le (lt_of_block NB.out) hb.size
            clear ht hb
            by_cases hlt : k < xs.length
            · have hlt2 : (k : Int) < (xs.length : Int) := by omega
              have hltm : (k : Int) < (ys.length : Int) := by omega
              have hyk := List.getElem?_eq_getElem hlt
              have hym := List.getElem_mem hlt
              have hzk := List.getElem?_eq_getElem (show k < ys.length by omega)
              generalize xs[k] = a at hyk hym
              generalize ys[k]'_ = b at hzk
              obtain ⟨b1, o1, A', c', rfl, hbl, g0, g1, g2, hra⟩ := sexp_cells (HX.out.on SexpR.lasts HBW.out) hyk
              obtain ⟨b2, o2, B', d', rfl, hbl', f0, f1, f2, hrb⟩ := sexp_cells (HZ.out.on SexpR.lasts HBW.out) hzk
              have HY := Lib.hid (HM.out a hym wr.drew A' c' b B' d' (SexpR.lasts _ _ _ _ ((Below.refl _ _).drew) hra) (SexpR.lasts _ _ _ _ ((Below.refl _ _).drew) hrb))
              have HN := Lib.hid (HNx.out k a b hyk hzk)
              have HC := Lib.hid (fun W' (h : Below wr.heap.size wr W') => show (W'.cell? ⟨W.heap.size, 2, none⟩ = some (.slice (some ⟨b1, o1, none⟩) xs.length c) ∧ W'.cell? ⟨W.heap.size + 1, 2, none⟩ = some (.slice (some ⟨b2, o2, none⟩) ys.length d)) ∧ (W'.cell? ⟨b1, o1 + k * 3, none⟩ = some (.int .i8 a.kind) ∧ W'.cell? ⟨b1, o1 + k * 3 + 1, none⟩ = some (.string a.text) ∧ W'.cell? ⟨b1, o1 + k * 3 + 2, none⟩ = some (.slice A' a.l.length c')) ∧ (W'.cell? ⟨b2, o2 + k * 3, none⟩ = some (.int .i8 b.kind) ∧ W'.cell? ⟨b2, o2 + k * 3 + 1, none⟩ = some (.string b.text) ∧ W'.cell? ⟨b2, o2 + k * 3 + 2, none⟩ = some (.slice B' b.l.length d')) from
                ⟨⟨(h.cell (p := ⟨_, 2, none⟩) hla).trans n2, (h.cell (p := ⟨_, 2, none⟩) hlb2).trans m2⟩, ⟨(h.cell (p := ⟨b1, o1 + k * 3, none⟩) hbl).trans g0, (h.cell (p := ⟨b1, o1 + k * 3 + 1, none⟩) hbl).trans g1, (h.cell (p := ⟨b1, o1 + k * 3 + 2, none⟩) hbl).trans g2⟩, (h.cell (p := ⟨b2, o2 + k * 3, none⟩) hbl').trans f0, (h.cell (p := ⟨b2, o2 + k * 3 + 1, none⟩) hbl').trans f1, (h.cell (p := ⟨b2, o2 + k * 3 + 2, none⟩) hbl').trans f2⟩)
              clear hra hrb hyk hzk hym
              go_wp2_with fail
              refine wp_region_held_drew (S := fun W' => (W'.cell? ⟨W.heap.size, 2, none⟩ = some (.slice (some ⟨b1, o1, none⟩) xs.length c) ∧ W'.cell? ⟨W.heap.size + 1, 2, none⟩ = some (.slice (some ⟨b2, o2, none⟩) ys.length d)) ∧ (W'.cell? ⟨b1, o1 + k * 3, none⟩ = some (.int .i8 a.kind) ∧ W'.cell? ⟨b1, o1 + k * 3 + 1, none⟩ = some (.string a.text) ∧ W'.cell? ⟨b1, o1 + k * 3 + 2, none⟩ = some (.slice A' a.l.length c')) ∧ (W'.cell? ⟨b2, o2 + k * 3, none⟩ = some (.int .i8 b.kind) ∧ W'.cell? ⟨b2, o2 + k * 3 + 1, none⟩ = some (.string b.text) ∧ W'.cell? ⟨b2, o2 + k * 3 + 2, none⟩ = some (.slice B' b.l.length d'))) (by kernel_rfl) (HC.out _ (Below.refl _ _).drew) (fun hHeld => ?_)
              clear n0 n1 n2 m0 m1 m2 g0 g1 g2 f0 f1 f2
              refine wpAnyH_take (i := 0) (oi := Oper.mk _ _ _ _ _ _) (v := ?_) rfl (by kernel_rfl) (by kernel_rfl) (by kernel_rfl) (fun _ _ _ h => h) (Or.inl ⟨by rfl, ?_⟩) (by assumption) ?_
              rotate_left
              · (intro w hSw; (try dsimp only at hSw); go_simp; try with_reducible rfl)
              try simp only [Act.put, List.setIfInBounds_toArray, List.set_cons_zero, List.set_cons_succ]
              refine wpAnyH_take (i := 1) (oi := Oper.mk _ _ _ _ _ _) (v := ?_) rfl (by kernel_rfl) (by kernel_rfl) (by kernel_rfl) (fun _ _ _ h => h) (Or.inl ⟨by rfl, ?_⟩) (by assumption) ?_
              rotate_left
              · (intro w hSw; (try dsimp only at hSw); go_simp; try with_reducible rfl)
              try simp only [Act.put, List.setIfInBounds_toArray, List.set_cons_zero, List.set_cons_succ]
              refine wpAnyH_take (i := 2) (oi := Oper.mk _ _ _ _ _ _) (v := ?_) rfl (by kernel_rfl) (by kernel_rfl) (by kernel_rfl) (fun _ _ _ h => h) (Or.inl ⟨by rfl, ?_⟩) (by assumption) ?_
              rotate_left
              · (intro w hSw; (try dsimp only at hSw); go_simp; try with_reducible rfl)
              try simp only [Act.put, List.setIfInBounds_toArray, List.set_cons_zero, List.set_cons_succ]
              refine wpAnyH_take (i := 3) (oi := Oper.mk _ _ _ _ _ _) (v := ?_) rfl (by kernel_rfl) (by kernel_rfl) (by kernel_rfl) (fun _ _ _ h => h) (Or.inl ⟨by rfl, ?_⟩) (by assumption) ?_
              rotate_left
              · (intro w hSw; (try dsimp only at hSw); go_simp; try with_reducible rfl)
              try simp only [Act.put, List.setIfInBounds_toArray, List.set_cons_zero, List.set_cons_succ]
              refine wpAnyH_take (i := 4) (oi := Oper.mk _ _ _ _ _ _) (v := ?_) rfl (by kernel_rfl) (by kernel_rfl) (by kernel_rfl) (fun _ _ _ h => h) (Or.inl ⟨by rfl, ?_⟩) (by assumption) ?_
              rotate_left
              · (intro w hSw; (try dsimp only at hSw); go_simp; try with_reducible rfl)
              try simp only [Act.put, List.setIfInBounds_toArray, List.set_cons_zero, List.set_cons_succ]
              refine wpAnyH_take (i := 5) (oi := Oper.mk _ _ _ _ _ _) (v := ?_) rfl (by kernel_rfl) (by kernel_rfl) (by kernel_rfl) (fun _ _ _ h => h) (Or.inl ⟨by rfl, ?_⟩) (by assumption) ?_
              rotate_left
              · (intro w hSw; (try dsimp only at hSw); go_simp; try with_reducible rfl)
              try simp only [Act.put, List.setIfInBounds_toArray, List.set_cons_zero, List.set_cons_succ]
              refine wpAnyH_take (i := 6) (oi := Oper.mk _ _ _ _ _ _) (v := ?_) rfl (by kernel_rfl) (by kernel_rfl) (by kernel_rfl) (fun _ _ _ h => h) (Or.inl ⟨by rfl, ?_⟩) (by assumption) ?_
              rotate_left
              · (intro w hSw; (try dsimp only at hSw); go_simp; try with_reducible rfl)
              try simp only [Act.put, List.setIfInBounds_toArray, List.set_cons_zero, List.set_cons_succ]
              refine wpAnyH_take (i := 7) (oi := Oper.mk _ _ _ _ _ _) (v := ?_) rfl (by kernel_rfl) (by kernel_rfl) (by kernel_rfl) (fun _ _ _ h => h) (Or.inl ⟨by rfl, ?_⟩) (by assumption) ?_
              rotate_left
              · (intro w hSw; (try dsimp only at hSw); go_simp; try with_reducible rfl)
              try simp only [Act.put, List.setIfInBounds_toArray, List.set_cons_zero, List.set_cons_succ]
              refine wpAnyH_take (i := 8) (oi := Oper.mk _ _ _ _ _ _) (v := ?_) rfl (by kernel_rfl) (by kernel_rfl) (by kernel_rfl) (fun _ _ _ h => h) (Or.inl ⟨by rfl, ?_⟩) (by assumption) ?_
              rotate_left
              · (intro w hSw; (try dsimp only at hSw); go_simp; try with_reducible rfl)
              try simp only [Act.put, List.setIfInBounds_toArray, List.set_cons_zero, List.set_cons_succ]
              refine wpAnyH_take (i := 9) (oi := Oper.mk _ _ _ _ _ _) (v := ?_) rfl (by kernel_rfl) (by kernel_rfl) (by kernel_rfl) (fun _ _ _ h => h) (Or.inl ⟨by rfl, ?_⟩) (by assumption) ?_
              rotate_left
              · (intro w hSw; (try dsimp only at hSw); go_simp; try with_reducible rfl)
              try simp only [Act.put, List.setIfInBounds_toArray, List.set_cons_zero, List.set_cons_succ]
              refine wpAnyH_ready (rs := [10]) (by kernel_rfl) (by simp) ?_
              refine AllReadyH.cons (o := Oper.mk _ _ _ _ _ _) rfl (fun K hK => ?_) AllReadyH.nil
              go_simp
              go_wp2_with (go_at_call 18; refine HY.out.mono ?_; rintro e w3 ⟨rfl, hb3⟩; have HB3 := Lib.hid ((Below.refl wr.heap.size wr).drew.trans hb3))
              refine hK.out _ _ (HC.out _ HB3.out) (fun hHeld => ?_)
              clear hK K
              try simp only [Act.put, List.setIfInBounds_toArray, List.set_cons_zero, List.set_cons_succ]
              have HBe := Lib.hid (HBr.out.trans (HB3.out.mono HBr.out.size))
              clear hb3
              by_cases he : a = b
              · have HN1 := Lib.hid (HN.out.1 he HT.out)
                rw [eqB_true.2 he]
                refine wpAnyH_take (i := 11) (oi := Oper.mk _ _ _ _ _ _) (v := ?_) rfl (by kernel_rfl) (by kernel_rfl) (by kernel_rfl) (fun _ _ _ h => h) (Or.inl ⟨by rfl, ?_⟩) (by assumption) ?_
                rotate_left
                · (intro w hSw; (try dsimp only at hSw); go_simp; try with_reducible rfl)
                try simp only [Act.put, List.setIfInBounds_toArray, List.set_cons_zero, List.set_cons_succ]
                refine wpAnyH_done (by kernel_rfl) ?_ _
                clear hHeld
                go_wp2_with fail
                go_roundw
                case rel => exact ⟨k + 1, by omega, by go_num, HN1.out, HBe.out⟩
                case measure => simp [intOf]; omega
              · have HN1 := Lib.hid (HN.out.2 he)
                rw [eqB_false.2 he]
                refine wpAnyH_take (i := 11) (oi := Oper.mk _ _ _ _ _ _) (v := ?_) rfl (by kernel_rfl) (by kernel_rfl) (by kernel_rfl) (fun _ _ _ h => h) (Or.inl ⟨by rfl, ?_⟩) (by assumption) ?_
                rotate_left
                · (intro w hSw; (try dsimp only at hSw); go_simp; try with_reducible rfl)
                try simp only [Act.put, List.setIfInBounds_toArray, List.set_cons_zero, List.set_cons_succ]
                refine wpAnyH_done (by kernel_rfl) ?_ _
                clear hHeld
                have HR1 := Lib.hid (HR.out.trans HN1.out)
                go_wp2_with fail
                go_ret
                exact ⟨ret_bool HR1.out.symm, HB.out.trans (HBe.out.mono HB.out.size)⟩
            · obtain rfl : k = xs.length := by omega
              have HR1 := Lib.hid (HR.out.trans (HF.out HT.out))
              go_wp2_with fail
              go_ret
              exact ⟨ret_bool HR1.out.symm, HBW.out⟩
        · have hq2 : ((xs.length : Int) != (ys.length : Int)) = true := by simp; omega
          have HR := Lib.hid (show r = false by rw [HE.out, HLe.out hq]; rfl)
          clear hq
          go_wp2_with fail
          go_ret
          exact ⟨ret_bool HR.out.symm, HB.out⟩
end Go.Proofs.YtbchcipjpcdhfaaGreatDoor.Dt
