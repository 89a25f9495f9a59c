import Derived.Test.YtfcmpfaonpnbaaaGreatDoorMb
import Derived.Test.YtfcmpfaonpnbaaaGreatDoorMa
import Derived.Test.YtfcmpfaonpnbaaaGreatDoorBase
import Derived.Test.YtfcmpfaonpnbaaaGreatDoorShelf
import Derived.Lib.LaidTab
import Derived.Test.YtfcmpfaonpnbaaaGreatDoorMh
import Derived.Lib.ItoaLen
import Derived.Test.YtfcmpfaonpnbaaaGreatDoorMi
/- merged by wip/merge.py from: SexpOpen SigOpen LexQ LexRQ NumRMay Tab NumText NumRText ValText -/
/- Arguments that are expressions, signatures, worlds: whoever is read so reads as such. No condition. -/
namespace Go.Proofs.YtfcmpfaonpnbaaaGreatDoor.Dt
open Go.RowKit Go.ChangeShapes Go.WideShapes Go.Deep

theorem cI : Tryz.prog.cellsOf 3 = 1 := by kernel_rfl
theorem cI8 : Tryz.prog.cellsOf 48 = 1 := by kernel_rfl
theorem cS : Tryz.prog.cellsOf 9 = 1 := by kernel_rfl
theorem cSx : Tryz.prog.cellsOf 51 = 3 := by kernel_rfl
theorem cLSx : Tryz.prog.cellsOf 49 = 1 := by kernel_rfl
theorem bSx : Tryz.prog.bytesOf 51 = 48 := by kernel_rfl
theorem fSx : ∃ f0 f1 f2 : Field, Tryz.prog.underlying 51 = some (.struct #[f0, f1, f2]) ∧ f0.offset = 0 ∧ f1.offset = 1 ∧ f2.offset = 2 ∧ f0.type = 48 ∧ f1.type = 9 ∧ f2.type = 49 :=
  ⟨_, _, _, Tryz.underlying51, rfl, rfl, rfl, rfl, rfl, rfl⟩
theorem list3 {α : Type} {l : List α} (h : l.length = 3) : ∃ a b c, l = [a, b, c] := by
  match l, h with
  | [a, b, c], _ => exact ⟨a, b, c, rfl⟩
theorem list2 {α : Type} {l : List α} (h : l.length = 2) : ∃ a b, l = [a, b] := by
  match l, h with
  | [a, b], _ => exact ⟨a, b, rfl⟩
theorem list4 {α : Type} {l : List α} (h : l.length = 4) : ∃ a b c d, l = [a, b, c, d] := by
  match l, h with
  | [a, b, c, d], _ => exact ⟨a, b, c, d, rfl⟩
theorem list6 {α : Type} {l : List α} (h : l.length = 6) : ∃ a b c d e f, l = [a, b, c, d, e, f] := by
  match l, h with
  | [a, b, c, d, e, f], _ => exact ⟨a, b, c, d, e, f, rfl⟩

section
variable {H : Type} {enc : TypeId × Value → H}
theorem opens_sexp (fuel : Nat) : Opens H enc Tryz.prog 51 SexpR fuel := by
  induction fuel using Nat.strongRecOn with
  | _ fuel ih =>
    intro W cs y h hf
    obtain ⟨f0, f1, f2, hu, o0, o1, o2, t0, t1, t2⟩ := fSx
    have hlen := struct_len hu h
    rw [cSx] at hlen
    obtain ⟨a, b, c, rfl⟩ := list3 hlen
    obtain ⟨k, hk⟩ := field_of hu h hf 0 f0 rfl (fun fu _ => by rw [t0]; exact opens_int Tryz.underlying48 fu)
    rw [o0, t0, cI8] at hk
    obtain ⟨hk1, hk2⟩ := hk
    obtain ⟨t, ht⟩ := field_of hu h hf 1 f1 rfl (fun fu _ => by rw [t1]; exact opens_str Tryz.underlying9 fu)
    rw [o1, t1, cS] at ht
    obtain ⟨ht1, ht2⟩ := ht
    obtain ⟨l, hl⟩ := field_of hu h hf 2 f2 rfl (fun fu hfu => by rw [t2]; exact opens_slice Tryz.underlying49 cSx bSx (by omega) (fun fu' hfu' => ih fu' (by omega)))
    rw [o2, t2, cLSx] at hl
    obtain ⟨A, cap, hl1, hl2, hl3, hl4, hl5⟩ := hl
    simp at hk1 ht1 hl1
    subst hk1 ht1 hl1
    exact ⟨.mk k t l, SexpR.make hl2 hl3 hl4 ht2 hl5 hk2⟩
end
end Go.Proofs.YtfcmpfaonpnbaaaGreatDoor.Dt
/- Arguments that are signatures: whoever is read so reads as such. No condition. -/
namespace Go.Proofs.YtfcmpfaonpnbaaaGreatDoor.Dt
open Go.RowKit Go.ChangeShapes Go.WideShapes Go.Deep
section
variable {H : Type} {enc : TypeId × Value → H}
theorem cFun : Tryz.prog.cellsOf 72 = 6 := by kernel_rfl
theorem cA3 : Tryz.prog.cellsOf 58 = 3 := by kernel_rfl
theorem fFun : ∃ f0 f1 f2 f3 : Field, Tryz.prog.underlying 72 = some (.struct #[f0, f1, f2, f3]) ∧ f0.offset = 0 ∧ f1.offset = 1 ∧ f2.offset = 2 ∧ f3.offset = 5 ∧ f0.type = 9 ∧ f1.type = 3 ∧ f2.type = 58 ∧ f3.type = 3 :=
  ⟨_, _, _, _, Tryz.underlying72, rfl, rfl, rfl, rfl, rfl, rfl, rfl, rfl⟩
/-- three ints in a row -/
def A3R (_ : World) (vs : List Value) (x : Int × Int × Int) : Prop := vs = [.int .i64 x.1, .int .i64 x.2.1, .int .i64 x.2.2] ∧ I64 x.1 ∧ I64 x.2.1 ∧ I64 x.2.2
theorem opens_a3 (fuel : Nat) : Opens H enc Tryz.prog 58 A3R fuel := by
  intro W cs y h hf
  have hlen := (DataW.trod_array Tryz.underlying58 h).choose_spec.choose_spec.2.2.1
  rw [cA3] at hlen
  obtain ⟨a, b, c, rfl⟩ := list3 hlen
  obtain ⟨x, hx⟩ := array_of Tryz.underlying58 h hf 1 cI 0 (by omega) (fun fu _ => opens_int Tryz.underlying3 fu)
  obtain ⟨y, hy⟩ := array_of Tryz.underlying58 h hf 1 cI 1 (by omega) (fun fu _ => opens_int Tryz.underlying3 fu)
  obtain ⟨z, hz⟩ := array_of Tryz.underlying58 h hf 1 cI 2 (by omega) (fun fu _ => opens_int Tryz.underlying3 fu)
  obtain ⟨hx1, hx2⟩ := hx.i64
  obtain ⟨hy1, hy2⟩ := hy.i64
  obtain ⟨hz1, hz2⟩ := hz.i64
  simp at hx1 hy1 hz1
  subst hx1 hy1 hz1
  exact ⟨⟨x, y, z⟩, rfl, hx2, hy2, hz2⟩
theorem opens_fun (fuel : Nat) : Opens H enc Tryz.prog 72 FunR fuel := by
  intro W cs y h hf
  obtain ⟨f0, f1, f2, f3, hu, o0, o1, o2, o3, t0, t1, t2, t3⟩ := fFun
  have hlen := struct_len hu h
  rw [cFun] at hlen
  obtain ⟨a, b, c, d, e, f, rfl⟩ := list6 hlen
  obtain ⟨n, hn⟩ := field_of hu h hf 0 f0 rfl (fun fu _ => by rw [t0]; exact opens_str Tryz.underlying9 fu)
  rw [o0, t0, cS] at hn
  obtain ⟨k, hk⟩ := field_of hu h hf 1 f1 rfl (fun fu _ => by rw [t1]; exact opens_int Tryz.underlying3 fu)
  rw [o1, t1, cI] at hk
  obtain ⟨⟨x0, x1, x2⟩, hx⟩ := field_of hu h hf 2 f2 rfl (fun fu _ => by rw [t2]; exact opens_a3 fu)
  rw [o2, t2, cA3] at hx
  obtain ⟨r, hr⟩ := field_of hu h hf 3 f3 rfl (fun fu _ => by rw [t3]; exact opens_int Tryz.underlying3 fu)
  rw [o3, t3, cI] at hr
  obtain ⟨hn1, hn2⟩ := hn
  obtain ⟨hk1, hk2⟩ := hk.i64
  obtain ⟨hx1, hx2, hx3, hx4⟩ := hx
  obtain ⟨hr1, hr2⟩ := hr.i64
  simp at hn1 hk1 hx1 hr1
  obtain ⟨hxa, hxb, hxc⟩ := hx1
  subst hn1 hk1 hxa hxb hxc hr1
  exact ⟨⟨n, k, x0, x1, x2, r⟩, rfl, hn2, hk2, hx2, hx3, hx4, hr2⟩
theorem cParam : Tryz.prog.cellsOf 110 = 2 := by kernel_rfl
theorem bParam : Tryz.prog.bytesOf 110 = 24 := by kernel_rfl
theorem fParam : ∃ f0 f1 : Field, Tryz.prog.underlying 110 = some (.struct #[f0, f1]) ∧ f0.offset = 0 ∧ f1.offset = 1 ∧ f0.type = 9 ∧ f1.type = 3 := ⟨_, _, Tryz.underlying110, rfl, rfl, rfl, rfl⟩
theorem opens_param (fuel : Nat) : Opens H enc Tryz.prog 110 ParamR fuel := by
  intro W cs y h hf
  obtain ⟨f0, f1, hu, o0, o1, t0, t1⟩ := fParam
  have hlen := struct_len hu h
  rw [cParam] at hlen
  obtain ⟨a, b, rfl⟩ := list2 hlen
  obtain ⟨n, hn⟩ := field_of hu h hf 0 f0 rfl (fun fu _ => by rw [t0]; exact opens_str Tryz.underlying9 fu)
  rw [o0, t0, cS] at hn
  obtain ⟨k, hk⟩ := field_of hu h hf 1 f1 rfl (fun fu _ => by rw [t1]; exact opens_int Tryz.underlying3 fu)
  rw [o1, t1, cI] at hk
  obtain ⟨hn1, hn2⟩ := hn
  obtain ⟨hk1, hk2⟩ := hk.i64
  simp at hn1 hk1
  subst hn1 hk1
  exact ⟨⟨n, k⟩, rfl, hn2, hk2⟩
theorem cMacro : Tryz.prog.cellsOf 53 = 6 := by kernel_rfl
theorem bMacro : Tryz.prog.bytesOf 53 = 96 := by kernel_rfl
theorem bFun : Tryz.prog.bytesOf 72 = 56 := by kernel_rfl
theorem bS : Tryz.prog.bytesOf 9 = 16 := by kernel_rfl
theorem cLParam : Tryz.prog.cellsOf 47 = 1 := by kernel_rfl
theorem cLS : Tryz.prog.cellsOf 22 = 1 := by kernel_rfl
theorem cLFun : Tryz.prog.cellsOf 23 = 1 := by kernel_rfl
theorem cLMacro : Tryz.prog.cellsOf 24 = 1 := by kernel_rfl
theorem cSig : Tryz.prog.cellsOf 26 = 3 := by kernel_rfl
theorem fMacro : ∃ f0 f1 f2 f3 : Field, Tryz.prog.underlying 53 = some (.struct #[f0, f1, f2, f3]) ∧ f0.offset = 0 ∧ f1.offset = 1 ∧ f2.offset = 2 ∧ f3.offset = 3 ∧ f0.type = 9 ∧ f1.type = 47 ∧ f2.type = 3 ∧ f3.type = 51 :=
  ⟨_, _, _, _, Tryz.underlying53, rfl, rfl, rfl, rfl, rfl, rfl, rfl, rfl⟩
theorem fSig : ∃ f0 f1 f2 : Field, Tryz.prog.underlying 26 = some (.struct #[f0, f1, f2]) ∧ f0.offset = 0 ∧ f1.offset = 1 ∧ f2.offset = 2 ∧ f0.type = 22 ∧ f1.type = 23 ∧ f2.type = 24 :=
  ⟨_, _, _, Tryz.underlying26, rfl, rfl, rfl, rfl, rfl, rfl⟩
theorem opens_macro (fuel : Nat) : Opens H enc Tryz.prog 53 MacroR fuel := by
  intro W cs y h hf
  obtain ⟨f0, f1, f2, f3, hu, o0, o1, o2, o3, t0, t1, t2, t3⟩ := fMacro
  have hlen := struct_len hu h
  rw [cMacro] at hlen
  obtain ⟨a, b, c, d, e, f, rfl⟩ := list6 hlen
  obtain ⟨n, hn⟩ := field_of hu h hf 0 f0 rfl (fun fu _ => by rw [t0]; exact opens_str Tryz.underlying9 fu)
  rw [o0, t0, cS] at hn
  obtain ⟨ps, hp⟩ := field_of hu h hf 1 f1 rfl (fun fu hfu => by rw [t1]; exact opens_slice Tryz.underlying47 cParam bParam (by omega) (fun fu' _ => opens_param fu'))
  rw [o1, t1, cLParam] at hp
  obtain ⟨r, hr⟩ := field_of hu h hf 2 f2 rfl (fun fu _ => by rw [t2]; exact opens_int Tryz.underlying3 fu)
  rw [o2, t2, cI] at hr
  obtain ⟨x, hx⟩ := field_of hu h hf 3 f3 rfl (fun fu _ => by rw [t3]; exact opens_sexp fu)
  rw [o3, t3, cSx] at hx
  obtain ⟨hn1, hn2⟩ := hn
  obtain ⟨A, cap, hp1, hp2, hp3, hp4, hp5⟩ := hp
  obtain ⟨hr1, hr2⟩ := hr.i64
  simp at hn1 hp1 hr1
  subst hn1 hp1 hr1
  exact ⟨⟨n, ps, r, x⟩, A, cap, [d, e, f], rfl, hx, hp2, hp3, hp4, hn2, hr2⟩
theorem opens_sig (fuel : Nat) : Opens H enc Tryz.prog 26 SigR fuel := by
  intro W cs y h hf
  obtain ⟨f0, f1, f2, hu, o0, o1, o2, t0, t1, t2⟩ := fSig
  have hlen := struct_len hu h
  rw [cSig] at hlen
  obtain ⟨a, b, c, rfl⟩ := list3 hlen
  obtain ⟨s, hs⟩ := field_of hu h hf 0 f0 rfl (fun fu hfu => by rw [t0]; exact opens_slice Tryz.underlying22 cS bS (by omega) (fun fu' _ => opens_str Tryz.underlying9 fu'))
  rw [o0, t0, cLS] at hs
  obtain ⟨fs, hfs⟩ := field_of hu h hf 1 f1 rfl (fun fu hfu => by rw [t1]; exact opens_slice Tryz.underlying23 cFun bFun (by omega) (fun fu' _ => opens_fun fu'))
  rw [o1, t1, cLFun] at hfs
  obtain ⟨ms, hms⟩ := field_of hu h hf 2 f2 rfl (fun fu hfu => by rw [t2]; exact opens_slice Tryz.underlying24 cMacro bMacro (by omega) (fun fu' _ => opens_macro fu'))
  rw [o2, t2, cLMacro] at hms
  obtain ⟨A1, c1, a1, a2, a3, a4, a5⟩ := hs
  obtain ⟨A2, c2, b1, b2, b3, b4, b5⟩ := hfs
  obtain ⟨A3, c3, d1, d2, d3, d4, d5⟩ := hms
  simp at a1 b1 d1
  subst a1 b1 d1
  exact ⟨⟨s, fs, ms⟩, A1, c1, A2, c2, A3, c3, rfl, ⟨a2, b2, d2, a3, b3, d3, a4, b4, d4⟩⟩
set_option maxRecDepth 100000 in
theorem open_sig {W : World} {base : Nat} {v : Value} {d : DataW H} {ps : List MemPlace} (hval : Value.okWide Tryz.prog W .any base 26 v) (h : DataW.Trod enc Tryz.prog W 0 (fun _ => true) true 26 v d ps) (hf : Fits Tryz.prog 26 d) :
    ∃ g A1 c1 A2 c2 A3 c3, v = .agg #[.slice A1 g.sorts.length c1, .slice A2 g.funs.length c2, .slice A3 g.macros.length c3] ∧ SigAt W A1 c1 A2 c2 A3 c3 g := by
  obtain ⟨f0, f1, f2, hu, _⟩ := fSig
  obtain ⟨cs, rfl, hsz⟩ := okWide_struct hu hval
  obtain ⟨fuel, ht⟩ := h
  obtain ⟨g, A1, c1, A2, c2, A3, c3, e, hg⟩ := opens_sig fuel W _ _ ht hf
  refine ⟨g, A1, c1, A2, c2, A3, c3, ?_, hg⟩
  have e2 : cs.toList = _ := e
  congr 1
  exact Array.toList_inj.1 e2
end
end Go.Proofs.YtfcmpfaonpnbaaaGreatDoor.Dt
/- lex: Plain, Quote. -/
namespace Go.Proofs.YtfcmpfaonpnbaaaGreatDoor.Lx
open Go.RowKit

def plainB (l : List UInt8) : Bool := !l.isEmpty && decide (l.length ≤ 100) && (l.all fun c => signI c.toNat) && !digitI (l.getD 0 0).toNat && !resB l
def quoteL (l : List UInt8) : List UInt8 := if plainB l || resB l then l else 124 :: (l ++ [124])
set_option maxHeartbeats 1600000 in
theorem plain_any (s : ByteArray) (w : World) (hs : (s.size : Int) ≤ 9223372036854775807) :
    Calls Tryz.prog 48 #[.string s] w fun e w' => e = .returned (.bool (plainB (bs s))) ∧ w = w' := by
  have HA := Lib.hid (all_sign s w hs)
  have HR := Lib.hid (reserved_any s w)
  have HM := Lib.hid (show plainB (bs s) = (!(bs s).isEmpty && decide (s.size ≤ 100) && ((bs s).all fun c => signI c.toNat) && !digitI ((bs s).getD 0 0).toNat && !resB (bs s)) by unfold plainB; rw [bs_length])
  by_cases h0 : 0 < s.size
  · have hne : s.toList.isEmpty = false := by rw [bs_toList, List.isEmpty_eq_false_iff, ← List.length_pos_iff, bs_length]; exact h0
    have hne2 : (bs s).isEmpty = false := by rw [← bs_toList]; exact hne
    have e0 : (bs s).getD 0 0 = s[0] := by rw [List.getD_eq_getElem?_getD, bs_at h0]; rfl
    rw [e0, hne2] at HM
    have h0' : (0 : Int) < (s.size : Int) := by omega
    have HD := Lib.hid (digit_any (s[0].toNat : Int) w (by omega) (by have := s[0].toNat_lt; omega))
    generalize digitI (s[0].toNat : Int) = d at *
    generalize ((bs s).all fun c => signI c.toNat) = b at *
    generalize resB (bs s) = r at *
    clear e0 hne2
    by_cases h1 : s.size ≤ 100
    · have h : (s.size : Int) ≤ 100 := by omega
      cases b with
      | false =>
        go_enter Tryz.func48, Tryz.ntmps48
        go_wp2_with fail
        refine HA.out.mono ?_
        rintro e w' ⟨rfl, rfl⟩
        go_wp2_with fail
        go_ret
        exact ⟨ret_bool (by rw [HM.out]; simp), rfl⟩
      | true =>
        cases d with
        | true =>
          go_enter Tryz.func48, Tryz.ntmps48
          go_wp2_with fail
          refine HA.out.mono ?_
          rintro e w' ⟨rfl, rfl⟩
          go_wp2_with fail
          refine HD.out.mono ?_
          rintro e w' ⟨rfl, rfl⟩
          go_wp2_with fail
          go_ret
          exact ⟨ret_bool (by rw [HM.out]; simp), rfl⟩
        | false =>
          go_enter Tryz.func48, Tryz.ntmps48
          go_wp2_with fail
          refine HA.out.mono ?_
          rintro e w' ⟨rfl, rfl⟩
          go_wp2_with fail
          refine HD.out.mono ?_
          rintro e w' ⟨rfl, rfl⟩
          go_wp2_with fail
          refine HR.out.mono ?_
          rintro e w' ⟨rfl, rfl⟩
          go_wp2_with fail
          go_ret
          exact ⟨ret_bool (by rw [HM.out]; simp [h1]), rfl⟩
    · have h : decide ((s.size : Int) ≤ 100) = false := decide_eq_false (by omega)
      go_enter Tryz.func48, Tryz.ntmps48
      go_wp2_with fail
      go_ret
      exact ⟨ret_bool (by rw [HM.out]; simp [h1]), rfl⟩
  · have hz : s.size = 0 := by omega
    have hb : bs s = [] := List.length_eq_zero_iff.1 (by rw [bs_length]; exact hz)
    have hne : s.toList = [] := by rw [bs_toList]; exact hb
    have HB := Lib.hid (show plainB (bs s) = false by rw [hb]; rfl)
    clear hb hz h0
    go_enter Tryz.func48, Tryz.ntmps48
    go_wp2_with fail
    go_ret
    exact ⟨ret_bool HB.out.symm, rfl⟩
theorem bs_mk (l : List UInt8) : bs ⟨l.toArray⟩ = l := by unfold bs; simp
theorem bs_append (s t : ByteArray) : bs (s ++ t) = bs s ++ bs t := by unfold bs; simp
def quoteS (s : ByteArray) : ByteArray := if plainB (bs s) || resB (bs s) then s else { data := #[124] } ++ s ++ { data := #[124] }
theorem bs_quoteS (s : ByteArray) : bs (quoteS s) = quoteL (bs s) := by
  unfold quoteS quoteL
  split
  · rfl
  · rw [bs_append, bs_append]; rfl
set_option maxHeartbeats 1600000 in
theorem quote_any (s : ByteArray) (w : World) (hs : (s.size : Int) ≤ 140737488351232) :
    Calls Tryz.prog 29 #[.string s] w fun e w' => e = .returned (.string (quoteS s)) ∧ w = w' := by
  have HP := Lib.hid (plain_any s w (by omega))
  have HR := Lib.hid (reserved_any s w)
  have HM := Lib.hid (show quoteS s = if plainB (bs s) || resB (bs s) then s else { data := #[124] } ++ s ++ { data := #[124] } from rfl)
  generalize plainB (bs s) = p at *
  generalize resB (bs s) = r at *
  cases p with
  | true =>
    go_enter Tryz.func29, Tryz.ntmps29
    go_wp2_with fail
    refine (HP.out).mono ?_
    rintro e w' ⟨rfl, rfl⟩
    go_wp2_with fail
    go_ret
    exact ⟨by rw [HM.out]; rfl, rfl⟩
  | false =>
    cases r with
    | true =>
      go_enter Tryz.func29, Tryz.ntmps29
      go_wp2_with fail
      refine (HP.out).mono ?_
      rintro e w' ⟨rfl, rfl⟩
      go_wp2_with fail
      refine (HR.out).mono ?_
      rintro e w' ⟨rfl, rfl⟩
      go_wp2_with fail
      go_ret
      exact ⟨by rw [HM.out]; rfl, rfl⟩
    | false =>
      go_enter Tryz.func29, Tryz.ntmps29
      go_wp2_with fail
      refine (HP.out).mono ?_
      rintro e w' ⟨rfl, rfl⟩
      go_wp2_with fail
      refine (HR.out).mono ?_
      rintro e w' ⟨rfl, rfl⟩
      go_wp2_with fail
      go_ret
      exact ⟨by rw [HM.out]; rfl, rfl⟩
end Go.Proofs.YtfcmpfaonpnbaaaGreatDoor.Lx
/- The document's lex: Plain, Quote. -/
namespace Go.Proofs.YtfcmpfaonpnbaaaGreatDoor.Lx
open Go.RowKit

set_option maxHeartbeats 800000 in
theorem rdigit_any (c : Int) (w : World) :
    Calls Tryz.prog 84 #[.int .u8 c] w fun e w' => e = .returned (.bool (digitI c)) ∧ w = w' := by
  by_cases h2 : 48 ≤ c
  · by_cases h3 : c ≤ 57
    · have HR := Lib.hid (show digitI c = true by simp [digitI]; omega)
      go_enter Tryz.func84, Tryz.ntmps84
      go_wp2_with fail
      go_ret
      exact ⟨ret_bool HR.out.symm, rfl⟩
    · have h3' := decide_eq_false h3
      have HR := Lib.hid (show digitI c = false by simp [digitI]; omega)
      go_enter Tryz.func84, Tryz.ntmps84
      go_wp2_with fail
      go_ret
      exact ⟨ret_bool HR.out.symm, rfl⟩
  · have h2' := decide_eq_false h2
    have HR := Lib.hid (show digitI c = false by simp [digitI]; omega)
    go_enter Tryz.func84, Tryz.ntmps84
    go_wp2_with fail
    go_ret
    exact ⟨ret_bool HR.out.symm, rfl⟩
/-- signs alone, at least one, the first one no digit -/
def signsB (l : List UInt8) : Bool := (l.all fun c => signI c.toNat) && !l.isEmpty && !digitI (l.getD 0 0).toNat
theorem plain_split (l : List UInt8) : plainB l = (mayB l && signsB l && !resB l) := by
  unfold plainB signsB mayB
  have himp : (l.all fun c => signI c.toNat) = true → (l.all fun c => insideI c.toNat) = true := fun h => by
    rw [List.all_eq_true] at h ⊢
    intro c hc
    have := h c hc
    simp [signI] at this
    simp [insideI]
    omega
  cases hs : (l.all fun c => signI c.toNat) with
  | false => simp
  | true => rw [himp hs]; cases l.isEmpty <;> cases decide (l.length ≤ 100) <;> cases digitI (l.getD 0 0).toNat <;> cases resB l <;> rfl
set_option maxHeartbeats 1600000 in
theorem rsigns_any (s : ByteArray) (w : World) (hs : (s.size : Int) ≤ 9223372036854775807) :
    Calls Tryz.prog 69 #[.string s] w fun e w' => e = .returned (.bool (signsB (bs s))) ∧ w = w' := by
  have HM := Lib.hid (show signsB (bs s) = (((bs s).all fun c => signI c.toNat) && !(bs s).isEmpty && !digitI ((bs s).getD 0 0).toNat) from rfl)
  go_enter Tryz.func69, Tryz.ntmps69
  go_wp2_with fail
  go_loop [3] (fun v => ∃ k : Nat, k ≤ s.size ∧ v = .int .i64 k ∧ ((bs s).take k).all (fun c => signI c.toNat) = true) (fun v => s.size - (intOf v).toNat)
  case atStart => exact ⟨0, Nat.zero_le _, rfl, rfl⟩
  case round =>
    obtain ⟨k, hk, rfl, hall⟩ := hrel
    have HA := Lib.hid hall
    clear hall
    by_cases hlt : k < s.size
    · have hlt2 : (k : Int) < (s.size : Int) := by omega
      have HC := Lib.hid (rsign_any (s[k].toNat : Int) w (by omega) (by have := s[k].toNat_lt; omega))
      have HT := Lib.hid (bs_next hlt)
      have HMm := Lib.hid (bs_mem hlt)
      cases hb : signI (s[k].toNat : Int) with
      | true =>
        have HB := Lib.hid hb
        rw [hb] at HC
        clear hb
        go_wp2_with fail
        refine HC.out.mono ?_
        rintro e w' ⟨rfl, rfl⟩
        go_wp2_with fail
        go_round
        case rel => exact ⟨k + 1, by omega, by go_num, by rw [HT.out, List.all_append, HA.out]; simp [HB.out]⟩
        case measure => simp [intOf]; omega
      | false =>
        have HB := Lib.hid (show signsB (bs s) = false from by rw [HM.out, Bool.and_assoc, Bool.and_eq_false_iff]; left; rw [Bool.eq_false_iff]; intro h; rw [List.all_eq_true] at h; have := h _ HMm.out; rw [hb] at this; cases this)
        rw [hb] at HC
        clear hb
        go_wp2_with fail
        refine HC.out.mono ?_
        rintro e w' ⟨rfl, rfl⟩
        go_wp2_with fail
        go_ret
        exact ⟨ret_bool HB.out.symm, rfl⟩
    · obtain rfl : k = s.size := by omega
      have HB := Lib.hid (show signsB (bs s) = (!(bs s).isEmpty && !digitI ((bs s).getD 0 0).toNat) from by have h := HA.out; rw [List.take_of_length_le (by rw [bs_length]; omega)] at h; rw [HM.out, h, Bool.true_and])
      by_cases h0 : 0 < s.size
      · have h0' : (0 : Int) < (s.size : Int) := by omega
        have hne : s.toList.isEmpty = false := by rw [bs_toList, List.isEmpty_eq_false_iff, ← List.length_pos_iff, bs_length]; exact h0
        have e0 : (bs s).getD 0 0 = s[0] := by rw [List.getD_eq_getElem?_getD, bs_at h0]; rfl
        have HD := Lib.hid (rdigit_any (s[0].toNat : Int) w)
        replace HB := Lib.hid (show signsB (bs s) = !digitI (s[0].toNat : Int) by rw [HB.out, ← bs_toList, hne, bs_toList, e0]; rfl)
        clear e0
        go_wp2_with fail
        refine HD.out.mono ?_
        rintro e w' ⟨rfl, rfl⟩
        go_wp2_with fail
        go_ret
        exact ⟨ret_bool HB.out.symm, rfl⟩
      · have hb : bs s = [] := List.length_eq_zero_iff.1 (by rw [bs_length]; omega)
        have hne : s.toList = [] := by rw [bs_toList]; exact hb
        replace HB := Lib.hid (show signsB (bs s) = false by rw [HB.out, hb]; rfl)
        clear hb h0 hlt
        go_wp2_with fail
        go_ret
        exact ⟨ret_bool HB.out.symm, rfl⟩
set_option maxHeartbeats 1600000 in
theorem rplain_any (s : ByteArray) (w : World) (hs : (s.size : Int) ≤ 9223372036854775807) :
    Calls Tryz.prog 50 #[.string s] w fun e w' => e = .returned (.bool (plainB (bs s))) ∧ w = w' := by
  have H1 := Lib.hid (rmay_any s w hs)
  have H2 := Lib.hid (rsigns_any s w hs)
  have H3 := Lib.hid (rreserved_any s w)
  have HM := Lib.hid (plain_split (bs s))
  generalize plainB (bs s) = p at *
  generalize mayB (bs s) = a at *
  generalize signsB (bs s) = b at *
  generalize resB (bs s) = c at *
  cases a with
  | false =>
    go_enter Tryz.func50, Tryz.ntmps50
    go_wp2_with fail
    refine (H1.out).mono ?_
    rintro e w' ⟨rfl, rfl⟩
    go_wp2_with fail
    go_ret
    exact ⟨ret_bool (by rw [HM.out]; rfl), rfl⟩
  | true =>
    cases b with
    | false =>
      go_enter Tryz.func50, Tryz.ntmps50
      go_wp2_with fail
      refine (H1.out).mono ?_
      rintro e w' ⟨rfl, rfl⟩
      go_wp2_with fail
      refine (H2.out).mono ?_
      rintro e w' ⟨rfl, rfl⟩
      go_wp2_with fail
      go_ret
      exact ⟨ret_bool (by rw [HM.out]; rfl), rfl⟩
    | true =>
      go_enter Tryz.func50, Tryz.ntmps50
      go_wp2_with fail
      refine (H1.out).mono ?_
      rintro e w' ⟨rfl, rfl⟩
      go_wp2_with fail
      refine (H2.out).mono ?_
      rintro e w' ⟨rfl, rfl⟩
      go_wp2_with fail
      refine (H3.out).mono ?_
      rintro e w' ⟨rfl, rfl⟩
      go_wp2_with fail
      go_ret
      exact ⟨ret_bool (by rw [HM.out]; rfl), rfl⟩
set_option maxHeartbeats 1600000 in
theorem rquote_any (s : ByteArray) (w : World) (hs : (s.size : Int) ≤ 140737488351232) :
    Calls Tryz.prog 32 #[.string s] w fun e w' => e = .returned (.string (quoteS s)) ∧ w = w' := by
  have HP := Lib.hid (rplain_any s w (by omega))
  have HR := Lib.hid (rreserved_any s w)
  have HM := Lib.hid (show quoteS s = if plainB (bs s) || resB (bs s) then s else { data := #[124] } ++ s ++ { data := #[124] } from rfl)
  generalize plainB (bs s) = p at *
  generalize resB (bs s) = r at *
  cases p with
  | true =>
    go_enter Tryz.func32, Tryz.ntmps32
    go_wp2_with fail
    refine (HP.out).mono ?_
    rintro e w' ⟨rfl, rfl⟩
    go_wp2_with fail
    go_ret
    exact ⟨by rw [HM.out]; rfl, rfl⟩
  | false =>
    cases r with
    | true =>
      go_enter Tryz.func32, Tryz.ntmps32
      go_wp2_with fail
      refine (HP.out).mono ?_
      rintro e w' ⟨rfl, rfl⟩
      go_wp2_with fail
      refine (HR.out).mono ?_
      rintro e w' ⟨rfl, rfl⟩
      go_wp2_with fail
      go_ret
      exact ⟨by rw [HM.out]; rfl, rfl⟩
    | false =>
      go_enter Tryz.func32, Tryz.ntmps32
      go_wp2_with fail
      refine (HP.out).mono ?_
      rintro e w' ⟨rfl, rfl⟩
      go_wp2_with fail
      refine (HR.out).mono ?_
      rintro e w' ⟨rfl, rfl⟩
      go_wp2_with fail
      go_ret
      exact ⟨by rw [HM.out]; rfl, rfl⟩
end Go.Proofs.YtfcmpfaonpnbaaaGreatDoor.Lx
/- The document's May of numbers. -/
namespace Go.Proofs.YtfcmpfaonpnbaaaGreatDoor
open Go.RowKit

set_option maxHeartbeats 400000 in
theorem rmay_any (n : Int) (w : World) :
    Calls Tryz.prog 30 #[.int .i64 n] w fun e w' => e = .returned (.bool (mayB n)) ∧ w = w' := by
  go_enter Tryz.func30, Tryz.ntmps30
  go_wp2
  all_goals go_ret
  all_goals refine ⟨ret_bool ?_, rfl⟩
  all_goals simp [mayB]
  all_goals omega
end Go.Proofs.YtfcmpfaonpnbaaaGreatDoor
/- strconv's table of powers of ten: that it holds its numbers, carried from world to world. -/
namespace Go.Proofs.YtfcmpfaonpnbaaaGreatDoor
open Go.RowKit

/-- strconv's table holds its numbers -/
def TabOk (w : World) : Prop := Lib.TabIs Tryz.prog w "internal/strconv.uint64pow10" .u64 Lib.pow10Tab
theorem gTab : Tryz.prog.globalNamed "internal/strconv.uint64pow10" = some 0 := by kernel_rfl
theorem TabOk.keep {w w' : World} (h : TabOk w) (hk : w'.heap[0]? = w.heap[0]?) : TabOk w' := by
  unfold TabOk Lib.TabIs World.var? at *
  rw [gTab] at *
  simp only [Option.bind_some] at *
  rw [hk]; exact h
theorem TabOk.lt {w : World} (h : TabOk w) : 0 < w.heap.size := by
  unfold TabOk Lib.TabIs World.var? at h
  rw [gTab] at h
  simp only [Option.bind_some] at h
  rcases Nat.lt_or_ge 0 w.heap.size with h1 | h1
  · exact h1
  · rw [Array.getElem?_eq_none h1] at h; cases h
theorem TabOk.on {w w' : World} (h : TabOk w) (hb : Below w.heap.size w w') : TabOk w' := h.keep (hb.block _ h.lt)

theorem grow_below (w : World) (k : Nat) (os : Array Obj) : Below w.heap.size w (Go.Sort.grow (w.drewN k) os) :=
  ⟨rfl, rfl, rfl, by simp [Go.Sort.grow, World.drewN], fun i hi => by
    show (w.heap ++ os)[i]? = _
    rw [Array.getElem?_append_left hi]⟩

/-- Itoa, at every int -/
theorem itoa_any (n : Int) (hn : I64 n) (w : World) (ht : TabOk w) :
    Calls Tryz.prog 47 #[.int .i64 n] w fun e w' => e = .returned (.string ⟨(Lib.itoa n).toArray⟩) ∧ Below w.heap.size w w' :=
  (Tryz.strconv_Itoa n hn.1 hn.2 w ht).mono fun _ _ ⟨he, k, os, hw⟩ => ⟨he, by rw [hw]; exact grow_below w k os⟩
end Go.Proofs.YtfcmpfaonpnbaaaGreatDoor
/- Text. -/
namespace Go.Proofs.YtfcmpfaonpnbaaaGreatDoor
open Go.RowKit

def textL (n : Int) : List UInt8 := if mayB n then (if n < 0 then [40, 45, 32] ++ Lib.itoa (-n) ++ [41] else Lib.itoa n) else []
def textE (n : Int) : Int := if mayB n then 0 else 10
theorem text_neg {n : Int} (hm : mayB n = true) (h : n < 0) : textL n = [40, 45, 32] ++ Lib.itoa (-n) ++ [41] ∧ textE n = 0 := by simp [textL, textE, hm, h]
theorem text_pos {n : Int} (hm : mayB n = true) (h : ¬ n < 0) : textL n = Lib.itoa n ∧ textE n = 0 := by simp [textL, textE, hm, h]
theorem text_no {n : Int} (hm : mayB n = false) : textL n = [] ∧ textE n = 10 := by simp [textL, textE, hm]

set_option maxHeartbeats 800000 in
theorem text_any (n : Int) (hn : I64 n) (w : World) (ht : TabOk w) :
    Calls Tryz.prog 28 #[.int .i64 n] w fun e w' => e = .returned (.tuple #[.string ⟨(textL n).toArray⟩, .int .i64 (textE n)]) ∧ Below w.heap.size w w' := by
  have HT := Lib.hid ht
  clear ht
  cases hm : mayB n with
  | true =>
    have hb := mayB_iff.1 hm
    obtain ⟨hb0, hb1⟩ := hb
    by_cases h0 : n < 0
    · have HX := Lib.hid (text_neg hm h0)
      have HM := Lib.hid hm
      clear hm
      go_enter Tryz.func28, Tryz.ntmps28
      go_wp2_with (go_at_call 46; refine (may_any n hn _).mono ?_; rw [HM.out]; rintro e w' ⟨rfl, rfl⟩)
      refine (itoa_any (-n) ⟨by omega, by omega⟩ w HT.out).mono ?_
      rintro e w1 ⟨rfl, hb⟩
      have HB := Lib.hid hb
      clear hb
      have hlen := Lib.itoa_length_le (-n) (by omega) (by omega)
      generalize Lib.itoa (-n) = L at *
      go_wp2_with fail
      have hx := HX.out
      go_ret2
      exact ⟨pair_str_int ⟨by rw [hx.1]; show ByteArray.mk [40, 45, 32].toArray ++ ByteArray.mk L.toArray ++ ByteArray.mk [41].toArray = _; rw [ByteArray.mk_append_mk, ByteArray.mk_append_mk], hx.2.symm⟩, HB.out⟩
    · have HX := Lib.hid (text_pos hm h0)
      have HM := Lib.hid hm
      clear hm
      go_enter Tryz.func28, Tryz.ntmps28
      go_wp2_with (go_at_call 46; refine (may_any n hn _).mono ?_; rw [HM.out]; rintro e w' ⟨rfl, rfl⟩)
      refine (itoa_any n hn w HT.out).mono ?_
      rintro e w1 ⟨rfl, hb⟩
      have HB := Lib.hid hb
      clear hb
      go_wp2_with fail
      have hx := HX.out
      go_ret2
      exact ⟨pair_str_int ⟨by rw [hx.1], hx.2.symm⟩, HB.out⟩
  | false =>
    have HX := Lib.hid (text_no hm)
    have HM := Lib.hid hm
    clear hm
    go_enter Tryz.func28, Tryz.ntmps28
    go_wp2_with (go_at_call 46; refine (may_any n hn _).mono ?_; rw [HM.out]; rintro e w' ⟨rfl, rfl⟩)
    have hx := HX.out
    go_ret2
    exact ⟨pair_str_int ⟨by rw [hx.1], hx.2.symm⟩, Below.refl _ _⟩

end Go.Proofs.YtfcmpfaonpnbaaaGreatDoor
/- The walks of layer 1's reference of Text. -/
namespace Go.Proofs.YtfcmpfaonpnbaaaGreatDoor
open Go.RowKit

/-- one letter as a string -/
theorem conv_one (w : World) (c : Nat) (hc : c < 256) : (convert 93 9 (.slice (some ⟨w.heap.size, 0, none⟩) 1 1)).run Tryz.prog (w.alloc (.cells #[.int .u8 (c : Int)] 5)) =
    .ok (.string ⟨[UInt8.ofNat c].toArray⟩) (w.alloc (.cells #[.int .u8 (c : Int)] 5)) := by
  refine run_convert_bytes_back (P := Tryz.prog) (w.alloc (.cells #[.int .u8 (c : Int)] 5)) 93 9 5 ⟨w.heap.size, 0, none⟩ 1 [UInt8.ofNat c] Tryz.underlying93 Tryz.underlying5 Tryz.underlying9 ?_
  intro j hj
  have h0 : j = 0 := by simpa using hj
  subst h0
  rw [addr_add0, World.cell?_alloc_at _ _ _ _ rfl]
  simp only [List.getElem_cons_zero, UInt8.toNat_ofNat']
  rw [Nat.mod_eq_of_lt hc]; rfl

theorem digits_last {m : Nat} (h : m / 10 = 0) : Lib.decDigits m = [UInt8.ofNat (48 + m % 10)] := by
  have : m < 10 := by omega
  rw [Lib.decDigits_one this, Nat.mod_eq_of_lt this]
theorem digits_more {m : Nat} (h : m / 10 ≠ 0) : Lib.decDigits m = Lib.decDigits (m / 10) ++ [UInt8.ofNat (48 + m % 10)] := by
  rw [Lib.decDigits, dif_neg (by omega)]
theorem str_add (c : UInt8) (l : List UInt8) : (ByteArray.mk [c].toArray ++ ByteArray.mk l.toArray) = ByteArray.mk (c :: l).toArray := by
  rw [ByteArray.mk_append_mk]; rfl
theorem str_congr {a b : List UInt8} (h : a = b) : ByteArray.mk a.toArray = ByteArray.mk b.toArray := by rw [h]
theorem digits_len {n : Nat} (hn : (n : Int) ≤ 4611686018427387904) : (Lib.decDigits n).length ≤ 21 := by
  rw [← Lib.itoa_nonneg]; exact Lib.itoa_length_le _ (by omega) (by omega)

set_option maxRecDepth 100000 in
set_option maxHeartbeats 800000 in
theorem rtext_pos (n : Nat) (hn : (n : Int) ≤ 4611686018427387904) (w : World) :
    Calls Tryz.prog 31 #[.int .i64 n] w fun e w' => e = .returned (.tuple #[.string ⟨(textL n).toArray⟩, .int .i64 (textE n)]) ∧ Below w.heap.size w w' := by
  have hm : mayB n = true := by rw [mayB_iff]; omega
  have HX := Lib.hid (text_pos hm (by omega))
  have HM := Lib.hid hm
  clear hm
  go_enter Tryz.func31, Tryz.ntmps31
  go_wp2_with (go_at_call 30; refine (rmay_any _ _).mono ?_; rw [HM.out]; rintro e w' ⟨rfl, rfl⟩)
  go_loopw [0, 6] (fun x t wr => ∃ (m : Nat) (l : List UInt8), m ≤ n ∧ x = .int .i64 m ∧ t = .string ⟨l.toArray⟩ ∧ Lib.decDigits n = Lib.decDigits m ++ l ∧ Below w.heap.size w wr) (fun x _ _ => (intOf x).toNat)
  case atStart => exact ⟨n, [], Nat.le_refl _, rfl, rfl, by simp, Below.refl _ _⟩
  case round =>
    obtain ⟨m, l, hm, rfl, rfl, hd, hb⟩ := hrel
    have hc := conv_one wr (48 + m % 10) (by omega)
    have hl : l.length ≤ 21 := by
      have h1 := digits_len hn
      rw [hd, List.length_append] at h1; omega
    have HD := Lib.hid hd
    have HB := Lib.hid hb
    clear hd hb
    rw [show ((48 + m % 10 : Nat) : Int) = 48 + (m : Int) % 10 by omega] at hc
    generalize hcd : UInt8.ofNat (48 + m % 10) = c at hc
    by_cases h0 : m / 10 = 0
    · have HL := Lib.hid ((digits_last h0).trans (by rw [hcd]))
      have h9 : m < 10 := by omega
      clear h0 hcd
      go_wp2_with fail
      go_ret2
      have hx := HX.out
      refine ⟨pair_str_int ⟨?_, hx.2.symm⟩, ?_⟩
      · rw [str_add, hx.1, Lib.itoa_nonneg, HD.out, HL.out]; rfl
      · exact HB.out.alloc HB.out.size _
    · have HL := Lib.hid ((digits_more h0).trans (by rw [hcd]))
      have h9 : ((m : Int) / 10 == 0) = false := by rw [beq_eq_false_iff_ne]; omega
      have h10 : 10 ≤ m := by omega
      clear h0 hcd
      go_wp2_with fail
      go_roundw
      case rel =>
        refine ⟨m / 10, c :: l, by omega, by go_num, ?_, ?_, HB.out.alloc HB.out.size _⟩
        · exact congrArg Value.string (str_add c l)
        · rw [HD.out, HL.out]; simp
      case measure => simp [intOf]; omega

set_option maxRecDepth 100000 in
set_option maxHeartbeats 800000 in
theorem rtext_any (n : Int) (hn : I64 n) (w : World) :
    Calls Tryz.prog 31 #[.int .i64 n] w fun e w' => e = .returned (.tuple #[.string ⟨(textL n).toArray⟩, .int .i64 (textE n)]) ∧ Below w.heap.size w w' := by
  cases hm : mayB n with
  | true =>
    have hb := mayB_iff.1 hm
    obtain ⟨hb0, hb1⟩ := hb
    by_cases h0 : n < 0
    · have HX := Lib.hid (text_neg hm h0)
      have HM := Lib.hid hm
      clear hm
      have hrec := rtext_pos (-n).toNat (by omega) w
      rw [show (((-n).toNat : Nat) : Int) = -n by omega] at hrec
      have hp := text_pos (n := -n) (by rw [mayB_iff]; omega) (by omega)
      rw [hp.1, hp.2] at hrec
      have HR := Lib.hid hrec
      clear hrec hp
      go_enter Tryz.func31, Tryz.ntmps31
      go_wp2_with (go_at_call 30; refine (rmay_any _ _).mono ?_; rw [HM.out]; rintro e w' ⟨rfl, rfl⟩)
      refine HR.out.mono ?_
      rintro e w1 ⟨rfl, hb⟩
      have HB := Lib.hid hb
      clear hb
      have hlen := Lib.itoa_length_le (-n) (by omega) (by omega)
      generalize Lib.itoa (-n) = L at *
      go_wp2_with fail
      have hx := HX.out
      go_ret2
      exact ⟨pair_str_int ⟨by rw [hx.1]; show ByteArray.mk [40, 45, 32].toArray ++ ByteArray.mk L.toArray ++ ByteArray.mk [41].toArray = _; rw [ByteArray.mk_append_mk, ByteArray.mk_append_mk], hx.2.symm⟩, HB.out⟩
    · obtain ⟨k, rfl⟩ := Int.eq_ofNat_of_zero_le (show 0 ≤ n by omega)
      exact rtext_pos k hb1 w
  | false =>
    have HX := Lib.hid (text_no hm)
    have HM := Lib.hid hm
    clear hm
    go_enter Tryz.func31, Tryz.ntmps31
    go_wp2_with (go_at_call 30; refine (rmay_any _ _).mono ?_; rw [HM.out]; rintro e w' ⟨rfl, rfl⟩)
    have hx := HX.out
    go_ret2
    exact ⟨pair_str_int ⟨by rw [hx.1], hx.2.symm⟩, Below.refl _ _⟩
end Go.Proofs.YtfcmpfaonpnbaaaGreatDoor
/- The program's value: a value's text. -/
namespace Go.Proofs.YtfcmpfaonpnbaaaGreatDoor.Vl
open Go.RowKit Go.Proofs.YtfcmpfaonpnbaaaGreatDoor.Dt Go.Proofs.YtfcmpfaonpnbaaaGreatDoor.Sg

def txtE (n : Nat) (s v : Int) : Int := if !decide (0 ≤ s ∧ s < 2 + (n : Int)) then 2 else if !mayB v || decide (s ≠ 1 ∧ v < 0) || decide (s = 0 ∧ 1 < v) then 33 else 0
def falseS : ByteArray := { data := #[102, 97, 108, 115, 101] }
def trueS : ByteArray := { data := #[116, 114, 117, 101] }
def asS : ByteArray := { data := #[40, 97, 115, 32, 64] }
def ownT (v : Int) (s : ByteArray) : ByteArray := asS ++ ⟨(textL v).toArray⟩ ++ { data := #[32] } ++ Lx.quoteS s ++ { data := #[41] }
def txtS (l : List ByteArray) (s v : Int) : ByteArray :=
  if txtE l.length s v ≠ 0 then { data := #[] } else if s = 0 then (if v = 0 then falseS else trueS) else if s = 1 then ⟨(textL v).toArray⟩ else ownT v (l.getD (s - 2).toNat { data := #[] })
theorem txt_out {l : List ByteArray} {s v : Int} (h : ¬ (0 ≤ s ∧ s < 2 + (l.length : Int))) : txtE l.length s v = 2 ∧ txtS l s v = { data := #[] } := by
  have e : txtE l.length s v = 2 := by unfold txtE; rw [decide_eq_false h]; rfl
  exact ⟨e, by unfold txtS; rw [if_pos (by rw [e]; omega)]⟩
theorem txt_bad {l : List ByteArray} {s v : Int} (h : 0 ≤ s ∧ s < 2 + (l.length : Int)) (h2 : mayB v = false ∨ (s ≠ 1 ∧ v < 0) ∨ (s = 0 ∧ 1 < v)) : txtE l.length s v = 33 ∧ txtS l s v = { data := #[] } := by
  have e : txtE l.length s v = 33 := by
    unfold txtE
    rw [decide_eq_true h]
    simp only [Bool.not_true, Bool.false_eq_true, if_false]
    rw [if_pos]
    rcases h2 with h2 | h2 | h2
    · rw [h2]; rfl
    · rw [decide_eq_true h2]; simp
    · rw [decide_eq_true h2]; simp
  exact ⟨e, by unfold txtS; rw [if_pos (by rw [e]; omega)]⟩
theorem txt_ok {l : List ByteArray} {s v : Int} (h : 0 ≤ s ∧ s < 2 + (l.length : Int)) (hm : mayB v = true) (h1 : ¬ (s ≠ 1 ∧ v < 0)) (h2 : ¬ (s = 0 ∧ 1 < v)) : txtE l.length s v = 0 ∧ txtS l s v = (if s = 0 then (if v = 0 then falseS else trueS) else if s = 1 then ⟨(textL v).toArray⟩ else ownT v (l.getD (s - 2).toNat { data := #[] })) := by
  have e : txtE l.length s v = 0 := by
    unfold txtE
    rw [decide_eq_true h, hm, decide_eq_false h1, decide_eq_false h2]; rfl
  exact ⟨e, by unfold txtS; rw [if_neg (by rw [e]; simp)]⟩
theorem str_int {a b : ByteArray} {c d : Int} (h1 : a = b) (h2 : c = d) : Ending.returned (.tuple #[.string a, .int .i64 c]) = .returned (.tuple #[.string b, .int .i64 d]) := by rw [h1, h2]
theorem textL_len {v : Int} (hv : I64 v) : (textL v).length ≤ 100 := by
  unfold textL
  split
  · split
    · have hm : mayB v = true := by assumption
      have hb := mayB_iff.1 hm
      have := Lib.itoa_length_le (-v) (by omega) (by omega)
      simp; omega
    · have := Lib.itoa_length_le v (by have := hv.lo; omega) (by have := hv.hi; omega)
      omega
  · simp
theorem quote_len (s : ByteArray) : (Lx.quoteS s).size ≤ s.size + 2 := by
  unfold Lx.quoteS
  split
  · omega
  · simp [ByteArray.size_append]; show 1 + s.size + 1 ≤ _; omega
set_option maxRecDepth 100000 in
set_option maxHeartbeats 3200000 in
theorem vtext_any {w : World} {A1 A2 A3 : Option Addr} {c1 n2 c2 n3 c3 : Nat} {l : List ByteArray} (h : Lies 1 StrR w A1 l) (hn : (l.length : Int) ≤ 1000000) (s v : Int) (hs : I64 s) (hv : I64 v) (ht : TabOk w) :
    Calls Tryz.prog 11 #[.agg #[.slice A1 l.length c1, .slice A2 n2 c2, .slice A3 n3 c3], .int .i64 s, .int .i64 v] w fun e w' => e = .returned (.tuple #[.string (txtS l s v), .int .i64 (txtE l.length s v)]) ∧ Below w.heap.size w w' := by
  have HB1 := Lib.hid ((Below.refl w.heap.size w).alloc (Nat.le_refl _) (.cells #[.slice A1 l.length c1, .slice A2 n2 c2, .slice A3 n3 c3] 26))
  have HT := Lib.hid (text_any v hv _ (ht.on HB1.out))
  have HL := Lib.hid (fun W (hW : Below w.heap.size w W) => h.on StrR.lasts hW)
  have HOut := Lib.hid (txt_out (l := l) (s := s) (v := v))
  have HBad := Lib.hid (txt_bad (l := l) (s := s) (v := v))
  have HOk := Lib.hid (txt_ok (l := l) (s := s) (v := v))
  obtain ⟨g0, g1, g2⟩ := sig_cells w (.slice A1 l.length c1) (.slice A2 n2 c2) (.slice A3 n3 c3) 26
  have hz1 : w.heap.size < (w.alloc (.cells #[.slice A1 l.length c1, .slice A2 n2 c2, .slice A3 n3 c3] 26)).heap.size := by simp
  clear h ht
  by_cases h0 : s < 0
  · have h0' := decide_eq_true h0
    have HR := Lib.hid (HOut.out (by omega))
    go_enter Tryz.func11, Tryz.ntmps11
    go_wp2_with fail
    go_ret2
    exact ⟨str_int HR.out.2.symm HR.out.1.symm, HB1.out⟩
  · have h0' := decide_eq_false h0
    by_cases h1 : 2 + (l.length : Int) ≤ s
    · have h1' := decide_eq_true h1
      have HR := Lib.hid (HOut.out (by omega))
      go_enter Tryz.func11, Tryz.ntmps11
      go_wp2_with fail
      go_ret2
      exact ⟨str_int HR.out.2.symm HR.out.1.symm, HB1.out⟩
    · have h1' := decide_eq_false h1
      have hin : 0 ≤ s ∧ s < 2 + (l.length : Int) := by omega
      go_enter Tryz.func11, Tryz.ntmps11
      go_wp2_with fail
      generalize w.alloc (.cells #[.slice A1 l.length c1, .slice A2 n2 c2, .slice A3 n3 c3] 26) = w1 at *
      refine HT.out.mono ?_
      rintro e w2 ⟨rfl, hb2⟩
      have HB2 := Lib.hid (HB1.out.trans (hb2.mono HB1.out.size))
      have q0 := ((bcell hb2).1 w.heap.size 0 hz1).trans g0
      clear hb2 g0 g1 g2 hz1 HT
      cases hm : mayB v with
      | false =>
        have HR := Lib.hid (HBad.out hin (.inl hm))
        have he : textE v = 10 := by unfold textE; rw [hm]; rfl
        rw [he]
        clear he hm
        go_wp2_with fail
        go_ret2
        exact ⟨str_int HR.out.2.symm HR.out.1.symm, HB2.out⟩
      | true =>
        have he : textE v = 0 := by unfold textE; rw [hm]; rfl
        rw [he]
        have HM := Lib.hid hm
        clear he hm
        have htz : ((textL v).toArray.size : Int) ≤ 100 := by have := textL_len hv; simp; omega
        generalize htl : (textL v).toArray = tl at *
        have HTl := Lib.hid htl
        clear htl
        by_cases hs1 : s = 1
        · have HR := Lib.hid (HOk.out hin HM.out (by omega) (by omega))
          subst hs1
          go_wp2_with fail
          go_ret2
          exact ⟨str_int (by rw [HR.out.2]; simp) HR.out.1.symm, HB2.out⟩
        · have hs1' : (s == 1) = false := beq_eq_false_iff_ne.2 hs1
          have hs1'' : (s != 1) = true := by rw [bne, hs1']; rfl
          by_cases hv0 : v < 0
          · have hv0' := decide_eq_true hv0
            have HR := Lib.hid (HBad.out hin (.inr (.inl ⟨hs1, hv0⟩)))
            go_wp2_with fail
            go_ret2
            exact ⟨str_int HR.out.2.symm HR.out.1.symm, HB2.out⟩
          · have hv0' := decide_eq_false hv0
            by_cases hs0 : s = 0
            · subst hs0
              by_cases hv1 : 1 < v
              · have hv1' := decide_eq_true hv1
                have HR := Lib.hid (HBad.out hin (.inr (.inr ⟨rfl, hv1⟩)))
                go_wp2_with fail
                go_ret2
                exact ⟨str_int HR.out.2.symm HR.out.1.symm, HB2.out⟩
              · have hv1' := decide_eq_false hv1
                have HR := Lib.hid (HOk.out hin HM.out (by omega) (by omega))
                by_cases hvz : v = 0
                · subst hvz
                  have hI := fun W => (show (Instr.index 76 (.agg #[.string { data := #[102, 97, 108, 115, 101] }, .string { data := #[116, 114, 117, 101] }]) (.int .i64 0)).run Tryz.prog W = .ok (.string { data := #[102, 97, 108, 115, 101] }) W by kernel_rfl)
                  go_wp2_with fail
                  go_ret2
                  exact ⟨str_int HR.out.2.symm HR.out.1.symm, HB2.out⟩
                · obtain rfl : v = 1 := by omega
                  have hI := fun W => (show (Instr.index 76 (.agg #[.string { data := #[102, 97, 108, 115, 101] }, .string { data := #[116, 114, 117, 101] }]) (.int .i64 1)).run Tryz.prog W = .ok (.string { data := #[116, 114, 117, 101] }) W by kernel_rfl)
                  go_wp2_with fail
                  go_ret2
                  exact ⟨str_int HR.out.2.symm HR.out.1.symm, HB2.out⟩
            · have hs0' : (s == 0) = false := beq_eq_false_iff_ne.2 hs0
              obtain ⟨i, rfl⟩ : ∃ i : Nat, s = (i : Int) + 2 := ⟨s.toNat - 2, by omega⟩
              have hil : i < l.length := by omega
              obtain ⟨nm, hnm⟩ : ∃ nm, l[i]? = some nm := ⟨_, List.getElem?_eq_getElem hil⟩
              have HR := Lib.hid (HOk.out hin HM.out (by omega) (by omega))
              have HO := Lib.hid (show l.getD (((i : Int) + 2) - 2).toNat { data := #[] } = nm by rw [show (((i : Int) + 2) - 2).toNat = i by omega, List.getD_eq_getElem?_getD, hnm]; rfl)
              obtain ⟨b, o, vs, rfl, hbl, _, hcell, hr⟩ := (HL.out w2 HB2.out).at' hnm
              obtain ⟨rfl, hsz⟩ := hr
              have c0 := hcell 0 _ rfl
              rw [Nat.mul_one, Nat.add_zero] at c0
              clear hnm hcell
              have hql := quote_len nm
              have HQ := Lib.hid (fun W => Lx.quote_any nm W hsz)
              have HFin := Lib.hid (show ∀ q, Lx.quoteS nm = q → asS ++ ⟨tl⟩ ++ { data := #[32] } ++ q ++ { data := #[41] } = ownT v nm from fun q hq => by unfold ownT; rw [HTl.out, hq])
              generalize hqq : Lx.quoteS nm = q at *
              have HFq := Lib.hid (HFin.out q rfl)
              go_wp2_with fail
              refine (HQ.out w2).mono ?_
              rintro e w3 ⟨rfl, rfl⟩
              go_wp2_with fail
              go_ret2
              exact ⟨str_int (by rw [HR.out.2, if_neg (by omega), if_neg (by omega), HO.out]; exact HFq.out) HR.out.1.symm, HB2.out⟩
end Go.Proofs.YtfcmpfaonpnbaaaGreatDoor.Vl
