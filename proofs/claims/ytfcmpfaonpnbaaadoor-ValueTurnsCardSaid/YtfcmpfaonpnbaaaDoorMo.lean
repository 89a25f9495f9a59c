import Derived.Test.YtfcmpfaonpnbaaaDoorMb
import Derived.Test.YtfcmpfaonpnbaaaDoorMh
/- merged by wip/merge.py from: SexpOpen SigOpen ValLaw -/
/- Arguments that are expressions, signatures, worlds: whoever is read so reads as such. No condition. -/
namespace Go.Proofs.YtfcmpfaonpnbaaaDoor.Dt
open Go.RowKit Go.ChangeShapes Go.WideShapes Go.Deep

theorem cI : Tryd.prog.cellsOf 3 = 1 := by kernel_rfl
theorem cI8 : Tryd.prog.cellsOf 51 = 1 := by kernel_rfl
theorem cS : Tryd.prog.cellsOf 9 = 1 := by kernel_rfl
theorem cSx : Tryd.prog.cellsOf 54 = 3 := by kernel_rfl
theorem cLSx : Tryd.prog.cellsOf 52 = 1 := by kernel_rfl
theorem bSx : Tryd.prog.bytesOf 54 = 48 := by kernel_rfl
theorem fSx : ∃ f0 f1 f2 : Field, Tryd.prog.underlying 54 = some (.struct #[f0, f1, f2]) ∧ f0.offset = 0 ∧ f1.offset = 1 ∧ f2.offset = 2 ∧ f0.type = 51 ∧ f1.type = 9 ∧ f2.type = 52 :=
  ⟨_, _, _, Tryd.underlying54, rfl, rfl, rfl, rfl, rfl, rfl⟩
theorem list3 {α : Type} {l : List α} (h : l.length = 3) : ∃ a b c, l = [a, b, c] := by
  match l, h with
  | [a, b, c], _ => exact ⟨a, b, c, rfl⟩
theorem list2 {α : Type} {l : List α} (h : l.length = 2) : ∃ a b, l = [a, b] := by
  match l, h with
  | [a, b], _ => exact ⟨a, b, rfl⟩
theorem list4 {α : Type} {l : List α} (h : l.length = 4) : ∃ a b c d, l = [a, b, c, d] := by
  match l, h with
  | [a, b, c, d], _ => exact ⟨a, b, c, d, rfl⟩
theorem list6 {α : Type} {l : List α} (h : l.length = 6) : ∃ a b c d e f, l = [a, b, c, d, e, f] := by
  match l, h with
  | [a, b, c, d, e, f], _ => exact ⟨a, b, c, d, e, f, rfl⟩

section
variable {H : Type} {enc : TypeId × Value → H}
theorem opens_sexp (fuel : Nat) : Opens H enc Tryd.prog 54 SexpR fuel := by
  induction fuel using Nat.strongRecOn with
  | _ fuel ih =>
    intro W cs y h hf
    obtain ⟨f0, f1, f2, hu, o0, o1, o2, t0, t1, t2⟩ := fSx
    have hlen := struct_len hu h
    rw [cSx] at hlen
    obtain ⟨a, b, c, rfl⟩ := list3 hlen
    obtain ⟨k, hk⟩ := field_of hu h hf 0 f0 rfl (fun fu _ => by rw [t0]; exact opens_int Tryd.underlying51 fu)
    rw [o0, t0, cI8] at hk
    obtain ⟨hk1, hk2⟩ := hk
    obtain ⟨t, ht⟩ := field_of hu h hf 1 f1 rfl (fun fu _ => by rw [t1]; exact opens_str Tryd.underlying9 fu)
    rw [o1, t1, cS] at ht
    obtain ⟨ht1, ht2⟩ := ht
    obtain ⟨l, hl⟩ := field_of hu h hf 2 f2 rfl (fun fu hfu => by rw [t2]; exact opens_slice Tryd.underlying52 cSx bSx (by omega) (fun fu' hfu' => ih fu' (by omega)))
    rw [o2, t2, cLSx] at hl
    obtain ⟨A, cap, hl1, hl2, hl3, hl4, hl5⟩ := hl
    simp at hk1 ht1 hl1
    subst hk1 ht1 hl1
    exact ⟨.mk k t l, SexpR.make hl2 hl3 hl4 ht2 hl5 hk2⟩
end
end Go.Proofs.YtfcmpfaonpnbaaaDoor.Dt
/- Arguments that are signatures: whoever is read so reads as such. No condition. -/
namespace Go.Proofs.YtfcmpfaonpnbaaaDoor.Dt
open Go.RowKit Go.ChangeShapes Go.WideShapes Go.Deep
section
variable {H : Type} {enc : TypeId × Value → H}
theorem cFun : Tryd.prog.cellsOf 68 = 6 := by kernel_rfl
theorem cA3 : Tryd.prog.cellsOf 61 = 3 := by kernel_rfl
theorem fFun : ∃ f0 f1 f2 f3 : Field, Tryd.prog.underlying 68 = some (.struct #[f0, f1, f2, f3]) ∧ f0.offset = 0 ∧ f1.offset = 1 ∧ f2.offset = 2 ∧ f3.offset = 5 ∧ f0.type = 9 ∧ f1.type = 3 ∧ f2.type = 61 ∧ f3.type = 3 :=
  ⟨_, _, _, _, Tryd.underlying68, rfl, rfl, rfl, rfl, rfl, rfl, rfl, rfl⟩
/-- three ints in a row -/
def A3R (_ : World) (vs : List Value) (x : Int × Int × Int) : Prop := vs = [.int .i64 x.1, .int .i64 x.2.1, .int .i64 x.2.2] ∧ I64 x.1 ∧ I64 x.2.1 ∧ I64 x.2.2
theorem opens_a3 (fuel : Nat) : Opens H enc Tryd.prog 61 A3R fuel := by
  intro W cs y h hf
  have hlen := (DataW.trod_array Tryd.underlying61 h).choose_spec.choose_spec.2.2.1
  rw [cA3] at hlen
  obtain ⟨a, b, c, rfl⟩ := list3 hlen
  obtain ⟨x, hx⟩ := array_of Tryd.underlying61 h hf 1 cI 0 (by omega) (fun fu _ => opens_int Tryd.underlying3 fu)
  obtain ⟨y, hy⟩ := array_of Tryd.underlying61 h hf 1 cI 1 (by omega) (fun fu _ => opens_int Tryd.underlying3 fu)
  obtain ⟨z, hz⟩ := array_of Tryd.underlying61 h hf 1 cI 2 (by omega) (fun fu _ => opens_int Tryd.underlying3 fu)
  obtain ⟨hx1, hx2⟩ := hx.i64
  obtain ⟨hy1, hy2⟩ := hy.i64
  obtain ⟨hz1, hz2⟩ := hz.i64
  simp at hx1 hy1 hz1
  subst hx1 hy1 hz1
  exact ⟨⟨x, y, z⟩, rfl, hx2, hy2, hz2⟩
theorem opens_fun (fuel : Nat) : Opens H enc Tryd.prog 68 FunR fuel := by
  intro W cs y h hf
  obtain ⟨f0, f1, f2, f3, hu, o0, o1, o2, o3, t0, t1, t2, t3⟩ := fFun
  have hlen := struct_len hu h
  rw [cFun] at hlen
  obtain ⟨a, b, c, d, e, f, rfl⟩ := list6 hlen
  obtain ⟨n, hn⟩ := field_of hu h hf 0 f0 rfl (fun fu _ => by rw [t0]; exact opens_str Tryd.underlying9 fu)
  rw [o0, t0, cS] at hn
  obtain ⟨k, hk⟩ := field_of hu h hf 1 f1 rfl (fun fu _ => by rw [t1]; exact opens_int Tryd.underlying3 fu)
  rw [o1, t1, cI] at hk
  obtain ⟨⟨x0, x1, x2⟩, hx⟩ := field_of hu h hf 2 f2 rfl (fun fu _ => by rw [t2]; exact opens_a3 fu)
  rw [o2, t2, cA3] at hx
  obtain ⟨r, hr⟩ := field_of hu h hf 3 f3 rfl (fun fu _ => by rw [t3]; exact opens_int Tryd.underlying3 fu)
  rw [o3, t3, cI] at hr
  obtain ⟨hn1, hn2⟩ := hn
  obtain ⟨hk1, hk2⟩ := hk.i64
  obtain ⟨hx1, hx2, hx3, hx4⟩ := hx
  obtain ⟨hr1, hr2⟩ := hr.i64
  simp at hn1 hk1 hx1 hr1
  obtain ⟨hxa, hxb, hxc⟩ := hx1
  subst hn1 hk1 hxa hxb hxc hr1
  exact ⟨⟨n, k, x0, x1, x2, r⟩, rfl, hn2, hk2, hx2, hx3, hx4, hr2⟩
theorem cParam : Tryd.prog.cellsOf 104 = 2 := by kernel_rfl
theorem bParam : Tryd.prog.bytesOf 104 = 24 := by kernel_rfl
theorem fParam : ∃ f0 f1 : Field, Tryd.prog.underlying 104 = some (.struct #[f0, f1]) ∧ f0.offset = 0 ∧ f1.offset = 1 ∧ f0.type = 9 ∧ f1.type = 3 := ⟨_, _, Tryd.underlying104, rfl, rfl, rfl, rfl⟩
theorem opens_param (fuel : Nat) : Opens H enc Tryd.prog 104 ParamR fuel := by
  intro W cs y h hf
  obtain ⟨f0, f1, hu, o0, o1, t0, t1⟩ := fParam
  have hlen := struct_len hu h
  rw [cParam] at hlen
  obtain ⟨a, b, rfl⟩ := list2 hlen
  obtain ⟨n, hn⟩ := field_of hu h hf 0 f0 rfl (fun fu _ => by rw [t0]; exact opens_str Tryd.underlying9 fu)
  rw [o0, t0, cS] at hn
  obtain ⟨k, hk⟩ := field_of hu h hf 1 f1 rfl (fun fu _ => by rw [t1]; exact opens_int Tryd.underlying3 fu)
  rw [o1, t1, cI] at hk
  obtain ⟨hn1, hn2⟩ := hn
  obtain ⟨hk1, hk2⟩ := hk.i64
  simp at hn1 hk1
  subst hn1 hk1
  exact ⟨⟨n, k⟩, rfl, hn2, hk2⟩
theorem cMacro : Tryd.prog.cellsOf 56 = 6 := by kernel_rfl
theorem bMacro : Tryd.prog.bytesOf 56 = 96 := by kernel_rfl
theorem bFun : Tryd.prog.bytesOf 68 = 56 := by kernel_rfl
theorem bS : Tryd.prog.bytesOf 9 = 16 := by kernel_rfl
theorem cLParam : Tryd.prog.cellsOf 50 = 1 := by kernel_rfl
theorem cLS : Tryd.prog.cellsOf 22 = 1 := by kernel_rfl
theorem cLFun : Tryd.prog.cellsOf 23 = 1 := by kernel_rfl
theorem cLMacro : Tryd.prog.cellsOf 24 = 1 := by kernel_rfl
theorem cSig : Tryd.prog.cellsOf 26 = 3 := by kernel_rfl
theorem fMacro : ∃ f0 f1 f2 f3 : Field, Tryd.prog.underlying 56 = some (.struct #[f0, f1, f2, f3]) ∧ f0.offset = 0 ∧ f1.offset = 1 ∧ f2.offset = 2 ∧ f3.offset = 3 ∧ f0.type = 9 ∧ f1.type = 50 ∧ f2.type = 3 ∧ f3.type = 54 :=
  ⟨_, _, _, _, Tryd.underlying56, rfl, rfl, rfl, rfl, rfl, rfl, rfl, rfl⟩
theorem fSig : ∃ f0 f1 f2 : Field, Tryd.prog.underlying 26 = some (.struct #[f0, f1, f2]) ∧ f0.offset = 0 ∧ f1.offset = 1 ∧ f2.offset = 2 ∧ f0.type = 22 ∧ f1.type = 23 ∧ f2.type = 24 :=
  ⟨_, _, _, Tryd.underlying26, rfl, rfl, rfl, rfl, rfl, rfl⟩
theorem opens_macro (fuel : Nat) : Opens H enc Tryd.prog 56 MacroR fuel := by
  intro W cs y h hf
  obtain ⟨f0, f1, f2, f3, hu, o0, o1, o2, o3, t0, t1, t2, t3⟩ := fMacro
  have hlen := struct_len hu h
  rw [cMacro] at hlen
  obtain ⟨a, b, c, d, e, f, rfl⟩ := list6 hlen
  obtain ⟨n, hn⟩ := field_of hu h hf 0 f0 rfl (fun fu _ => by rw [t0]; exact opens_str Tryd.underlying9 fu)
  rw [o0, t0, cS] at hn
  obtain ⟨ps, hp⟩ := field_of hu h hf 1 f1 rfl (fun fu hfu => by rw [t1]; exact opens_slice Tryd.underlying50 cParam bParam (by omega) (fun fu' _ => opens_param fu'))
  rw [o1, t1, cLParam] at hp
  obtain ⟨r, hr⟩ := field_of hu h hf 2 f2 rfl (fun fu _ => by rw [t2]; exact opens_int Tryd.underlying3 fu)
  rw [o2, t2, cI] at hr
  obtain ⟨x, hx⟩ := field_of hu h hf 3 f3 rfl (fun fu _ => by rw [t3]; exact opens_sexp fu)
  rw [o3, t3, cSx] at hx
  obtain ⟨hn1, hn2⟩ := hn
  obtain ⟨A, cap, hp1, hp2, hp3, hp4, hp5⟩ := hp
  obtain ⟨hr1, hr2⟩ := hr.i64
  simp at hn1 hp1 hr1
  subst hn1 hp1 hr1
  exact ⟨⟨n, ps, r, x⟩, A, cap, [d, e, f], rfl, hx, hp2, hp3, hp4, hn2, hr2⟩
theorem opens_sig (fuel : Nat) : Opens H enc Tryd.prog 26 SigR fuel := by
  intro W cs y h hf
  obtain ⟨f0, f1, f2, hu, o0, o1, o2, t0, t1, t2⟩ := fSig
  have hlen := struct_len hu h
  rw [cSig] at hlen
  obtain ⟨a, b, c, rfl⟩ := list3 hlen
  obtain ⟨s, hs⟩ := field_of hu h hf 0 f0 rfl (fun fu hfu => by rw [t0]; exact opens_slice Tryd.underlying22 cS bS (by omega) (fun fu' _ => opens_str Tryd.underlying9 fu'))
  rw [o0, t0, cLS] at hs
  obtain ⟨fs, hfs⟩ := field_of hu h hf 1 f1 rfl (fun fu hfu => by rw [t1]; exact opens_slice Tryd.underlying23 cFun bFun (by omega) (fun fu' _ => opens_fun fu'))
  rw [o1, t1, cLFun] at hfs
  obtain ⟨ms, hms⟩ := field_of hu h hf 2 f2 rfl (fun fu hfu => by rw [t2]; exact opens_slice Tryd.underlying24 cMacro bMacro (by omega) (fun fu' _ => opens_macro fu'))
  rw [o2, t2, cLMacro] at hms
  obtain ⟨A1, c1, a1, a2, a3, a4, a5⟩ := hs
  obtain ⟨A2, c2, b1, b2, b3, b4, b5⟩ := hfs
  obtain ⟨A3, c3, d1, d2, d3, d4, d5⟩ := hms
  simp at a1 b1 d1
  subst a1 b1 d1
  exact ⟨⟨s, fs, ms⟩, A1, c1, A2, c2, A3, c3, rfl, ⟨a2, b2, d2, a3, b3, d3, a4, b4, d4⟩⟩
set_option maxRecDepth 100000 in
theorem open_sig {W : World} {base : Nat} {v : Value} {d : DataW H} {ps : List MemPlace} (hval : Value.okWide Tryd.prog W .any base 26 v) (h : DataW.Trod enc Tryd.prog W 0 (fun _ => true) true 26 v d ps) (hf : Fits Tryd.prog 26 d) :
    ∃ g A1 c1 A2 c2 A3 c3, v = .agg #[.slice A1 g.sorts.length c1, .slice A2 g.funs.length c2, .slice A3 g.macros.length c3] ∧ SigAt W A1 c1 A2 c2 A3 c3 g := by
  obtain ⟨f0, f1, f2, hu, _⟩ := fSig
  obtain ⟨cs, rfl, hsz⟩ := okWide_struct hu hval
  obtain ⟨fuel, ht⟩ := h
  obtain ⟨g, A1, c1, A2, c2, A3, c3, e, hg⟩ := opens_sig fuel W _ _ ht hf
  refine ⟨g, A1, c1, A2, c2, A3, c3, ?_, hg⟩
  have e2 : cs.toList = _ := e
  congr 1
  exact Array.toList_inj.1 e2
end
end Go.Proofs.YtfcmpfaonpnbaaaDoor.Dt
/- Layer 9's laws, of what its functions answer, in plain words: no condition. -/
namespace Go.Proofs.YtfcmpfaonpnbaaaDoor.Vl
open Go.RowKit Go.Proofs.YtfcmpfaonpnbaaaDoor.Dt Go.Proofs.YtfcmpfaonpnbaaaDoor.Sg

theorem ask_zero {g : Sig} {x : Wrld} {f : Int} {l : List Int} : askE g x f l = 0 ↔
    (mayW g x = true ∧ 0 ≤ f ∧ f < (g.funs.length : Int) ∧ (l.length : Int) = (g.funs.getD f.toNat noFun).len ∧ fitsB g.sorts.length x.sizes (g.funs.getD f.toNat noFun) (padA l) = true) := by
  unfold askE
  cases hm : mayW g x with
  | false => simp
  | true =>
    by_cases hf : f < 0 ∨ (g.funs.length : Int) ≤ f
    · rw [decide_eq_true hf]
      simp
      intro h1 h2
      omega
    · rw [decide_eq_false hf]
      by_cases hl : (l.length : Int) ≠ (g.funs.getD f.toNat noFun).len
      · rw [decide_eq_true hl]
        simp
        intro h1 h2 h3
        exact absurd h3 hl
      · rw [decide_eq_false hl]
        have hl' : (l.length : Int) = (g.funs.getD f.toNat noFun).len := by omega
        cases hq : fitsB g.sorts.length x.sizes (g.funs.getD f.toNat noFun) (padA l) <;> simp [hl'] <;> omega
theorem ask_cases (g : Sig) (x : Wrld) (f : Int) (l : List Int) : askE g x f l = 0 ∨ askE g x f l = 2 ∨ askE g x f l = 33 := by
  unfold askE
  split
  · exact .inr (.inl rfl)
  · split
    · exact .inl rfl
    · exact .inr (.inr rfl)
theorem with_cases (g : Sig) (x : Wrld) (f : Int) (l : List Int) (v : Int) : withE g x f l v = 0 ∨ withE g x f l v = 2 ∨ withE g x f l v = 33 := by
  unfold withE
  split
  · exact ask_cases g x f l
  · split
    · exact .inr (.inr rfl)
    · split
      · exact .inr (.inl rfl)
      · exact .inl rfl
theorem with_zero {g : Sig} {x : Wrld} {f : Int} {l : List Int} {v : Int} : withE g x f l v = 0 ↔
    (askE g x f l = 0 ∧ isB g.sorts.length x.sizes (g.funs.getD f.toNat noFun).res v = true ∧ (putRow (x.funs.getD f.toNat noVal).rows (padA l) v).length ≤ 400) := by
  unfold withE
  by_cases h : askE g x f l = 0
  · rw [if_neg (by simpa using h)]
    cases hi : isB g.sorts.length x.sizes (g.funs.getD f.toNat noFun).res v with
    | false => simp
    | true =>
      simp [h]
  · rw [if_pos h]
    exact ⟨fun e => absurd e h, fun e => absurd e.1 h⟩
theorem may_parts {g : Sig} {x : Wrld} (h : mayW g x = true) : checkB g = true ∧ x.sizes.length = g.sorts.length ∧ x.funs.length = g.funs.length ∧ sizesOk x.sizes = true ∧ ∀ i, i < x.funs.length → funAt g x i = true := by
  unfold mayW at h
  simp only [Bool.and_eq_true, decide_eq_true_eq] at h
  exact ⟨h.1.1.1.1, h.1.1.1.2, h.1.1.2, h.1.2, allTo_iff.1 h.2⟩
theorem may_made {g : Sig} {x : Wrld} (h1 : checkB g = true) (h2 : x.sizes.length = g.sorts.length) (h3 : x.funs.length = g.funs.length) (h4 : sizesOk x.sizes = true) (h5 : ∀ i, i < x.funs.length → funAt g x i = true) : mayW g x = true := by
  unfold mayW
  simp only [Bool.and_eq_true, decide_eq_true_eq]
  exact ⟨⟨⟨⟨h1, h2⟩, h3⟩, h4⟩, allTo_iff.2 h5⟩
theorem fun_len {g : Sig} (h : checkB g = true) {i : Nat} {f : Fun4} (hi : g.funs[i]? = some f) : funB g.sorts.length f = true := by
  unfold checkB at h
  simp only [Bool.and_eq_true] at h
  have h2 := allTo_iff.1 h.2.1.2 i (List.getElem?_eq_some_iff.1 hi).1
  unfold funOk at h2
  rw [hi] at h2
  simp only [Bool.and_eq_true] at h2
  exact h2.2
theorem funB_parts {n : Nat} {f : Fun4} (h : funB n f = true) : 0 ≤ f.len ∧ f.len ≤ 3 ∧ thereB n f.res = true := by
  unfold funB at h
  simp only [Bool.and_eq_true, decide_eq_true_eq] at h
  exact ⟨h.1.1.1.1.1, h.1.1.1.1.2, h.1.1.1.2⟩

section
variable {g : Sig} {x : Wrld} {f : Int} {l : List Int} {v : Int}
theorem getD_at {α : Type} {l : List α} {i : Nat} {d : α} (h : i < l.length) : l[i]? = some (l.getD i d) := by
  rw [List.getD_eq_getElem?_getD, List.getElem?_eq_getElem h]; rfl
/-- what is changed may be -/
theorem with_may (h : withE g x f l v = 0) : mayW g (withX x f l v) = true := by
  obtain ⟨ha, hv, hn⟩ := with_zero.1 h
  obtain ⟨hm, h0, hlt, hl, hfit⟩ := ask_zero.1 ha
  obtain ⟨h1, h2, h3, h4, h5⟩ := may_parts hm
  have hfl : f.toNat < x.funs.length := by omega
  refine may_made h1 h2 (by unfold withX; simp [h3]) h4 ?_
  intro i hi
  have hi' : i < x.funs.length := by unfold withX at hi; simpa using hi
  have hold := h5 i hi'
  unfold funAt withX
  by_cases e : i = f.toNat
  · subst e
    simp only [List.getElem?_set_self hfl]
    have hgf := getD_at (l := g.funs) (i := f.toNat) (d := noFun) (by omega)
    have hxf := getD_at (l := x.funs) (i := f.toNat) (d := noVal) hfl
    unfold funAt at hold
    rw [hgf, hxf] at hold
    rw [hgf]
    generalize g.funs.getD f.toNat noFun = F at *
    generalize x.funs.getD f.toNat noVal = V at *
    simp only [] at hold ⊢
    unfold funOkW at hold ⊢
    simp only [Bool.and_eq_true, decide_eq_true_eq, List.all_eq_true] at hold ⊢
    obtain ⟨⟨⟨o1, o2⟩, o3⟩, o4⟩ := hold
    refine ⟨⟨⟨once_put o1, hn⟩, o3⟩, fun r hr => ?_⟩
    rcases mem_put hr with hr | ⟨e1, e2⟩
    · exact o4 r hr
    · unfold rowOk
      rw [e1, e2, hfit, hv]; rfl
  · rw [List.getElem?_set_ne (by omega)]
    unfold funAt at hold
    exact hold
theorem ask_withX (hm : mayW g x = true) (h : withE g x f l v = 0) (k : Int) (m : List Int) : askE g (withX x f l v) k m = askE g x k m := by
  unfold askE
  rw [with_may h, hm]
  rfl
theorem with_fun (h : withE g x f l v = 0) : (withX x f l v).funs.getD f.toNat noVal = { (x.funs.getD f.toNat noVal) with rows := putRow (x.funs.getD f.toNat noVal).rows (padA l) v } := by
  obtain ⟨ha, _, _⟩ := with_zero.1 h
  obtain ⟨hm, h0, hlt, _, _⟩ := ask_zero.1 ha
  obtain ⟨_, _, h3, _, _⟩ := may_parts hm
  unfold withX
  simp only [List.getD_eq_getElem?_getD]
  rw [List.getElem?_set_self (by omega)]
  rfl
theorem with_fun_other {k : Nat} (h : k ≠ f.toNat) : (withX x f l v).funs.getD k noVal = x.funs.getD k noVal := by
  unfold withX
  simp only [List.getD_eq_getElem?_getD]
  rw [List.getElem?_set_ne (by omega)]
theorem with_apply (h : withE g x f l v = 0) : askE g (withX x f l v) f l = 0 ∧ applyV g (withX x f l v) f l = v := by
  obtain ⟨ha, _, _⟩ := with_zero.1 h
  obtain ⟨hm, _⟩ := ask_zero.1 ha
  have e : askE g (withX x f l v) f l = 0 := by rw [ask_withX hm h]; exact ha
  refine ⟨e, ?_⟩
  unfold applyV
  rw [if_pos e, with_fun h]
  exact lookV_put
theorem pad_inj {m : List Int} (h : padA l = padA m) (hl : l.length = m.length) (h3 : l.length ≤ 3) : l = m := by
  unfold padA at h
  simp only [Prod.mk.injEq] at h
  obtain ⟨a, b, c⟩ := h
  match l, m, hl, h3 with
  | [], [], _, _ => rfl
  | [p], [q], _, _ => simpa using a
  | [p, p'], [q, q'], _, _ => simp at a b; rw [a, b]
  | [p, p', p''], [q, q', q''], _, _ => simp at a b c; rw [a, b, c]
/-- elsewhere it is as it was -/
theorem with_other (h : withE g x f l v = 0) (k : Int) (m : List Int) : askE g (withX x f l v) k m = askE g x k m ∧ ((k = f ∧ m = l) ∨ applyV g (withX x f l v) k m = applyV g x k m) := by
  obtain ⟨ha, _, _⟩ := with_zero.1 h
  obtain ⟨hm, h0, hlt, hl, _⟩ := ask_zero.1 ha
  have e := ask_withX hm h k m
  refine ⟨e, ?_⟩
  unfold applyV
  rw [e]
  by_cases hk : askE g x k m = 0
  · rw [if_pos hk, if_pos hk]
    obtain ⟨_, k0, klt, kl, _⟩ := ask_zero.1 hk
    by_cases he : k.toNat = f.toNat
    · have hkf : k = f := by omega
      subst hkf
      rw [with_fun h]
      by_cases hp : padA m = padA l
      · left
        refine ⟨rfl, ?_⟩
        have hB := funB_parts (fun_len (may_parts hm).1 (getD_at (l := g.funs) (i := k.toNat) (d := noFun) (by omega)))
        exact pad_inj hp (by omega) (by omega)
      · right
        exact lookV_put_other hp
    · right
      rw [with_fun_other he]
  · right
    rw [if_neg hk, if_neg hk]
end

theorem rep_getD {α : Type} {n k : Nat} {d : α} : (List.replicate n d).getD k d = d := by
  rw [List.getD_eq_getElem?_getD]
  cases h : (List.replicate n d)[k]? with
  | none => rfl
  | some x =>
    have := List.mem_of_getElem? h
    rw [List.mem_replicate] at this
    exact this.2
theorem plain_is {n : Nat} {s : Int} (h : thereB n s = true) : isB n (List.replicate n 1) s 0 = true := by
  unfold thereB at h
  rw [decide_eq_true_iff] at h
  unfold isB valB
  rw [List.length_replicate, decide_eq_true rfl, decide_eq_true h]
  by_cases h0 : s = 0
  · rw [if_pos h0]; rfl
  · rw [if_neg h0]
    by_cases h1 : s = 1
    · rw [if_pos h1]; rfl
    · rw [if_neg h1, List.getD_eq_getElem?_getD, List.getElem?_eq_getElem (by rw [List.length_replicate]; omega)]
      simp
theorem plain_may (g : Sig) : mayW g (plainW g) = checkB g := by
  cases hc : checkB g with
  | false => unfold mayW; rw [hc]; rfl
  | true =>
    refine may_made hc (by simp [plainW]) (by simp [plainW]) (by simp [plainW, sizesOk]) ?_
    intro i hi
    have hi' : i < g.funs.length := by simpa [plainW] using hi
    unfold funAt plainW
    have hgf := List.getElem?_eq_getElem hi'
    have hB := funB_parts (fun_len hc hgf)
    rw [hgf]
    simp only [List.getElem?_replicate, if_pos hi']
    unfold funOkW noVal
    simp only [plain_is hB.2.2]
    rfl
theorem plain_apply (g : Sig) (f : Int) (l : List Int) : applyV g (plainW g) f l = 0 := by
  unfold applyV
  split
  · unfold plainW
    simp only [rep_getD]
    rfl
  · rfl

/-- changes at unlike places turned about -/
theorem turns {g : Sig} {x : Wrld} {f h : Int} {a b : List Int} {v u : Int} (hne : ¬ (f = h ∧ a = b)) (h1 : withE g x f a v = 0) (h2 : withE g x h b u = 0) :
    withE g (withX x f a v) h b u = withE g (withX x h b u) f a v ∧ (withE g (withX x f a v) h b u = 0 →
      askE g (withX (withX x f a v) h b u) f a = 0 ∧ askE g (withX (withX x h b u) f a v) f a = 0 ∧ applyV g (withX (withX x f a v) h b u) f a = applyV g (withX (withX x h b u) f a v) f a ∧
      askE g (withX (withX x f a v) h b u) h b = 0 ∧ askE g (withX (withX x h b u) f a v) h b = 0 ∧ applyV g (withX (withX x f a v) h b u) h b = applyV g (withX (withX x h b u) f a v) h b) := by
  obtain ⟨a1, b1, c1⟩ := with_zero.1 h1
  obtain ⟨a2, b2, c2⟩ := with_zero.1 h2
  obtain ⟨hm, p0, plt, pl, _⟩ := ask_zero.1 a1
  obtain ⟨_, q0, qlt, ql, _⟩ := ask_zero.1 a2
  have e1 := ask_withX hm h1 h b
  have e2 := ask_withX hm h2 f a
  rw [a2] at e1
  rw [a1] at e2
  have hE : withE g (withX x f a v) h b u = withE g (withX x h b u) f a v := by
    unfold withE
    rw [e1, e2]
    simp only [ne_eq, not_true, if_false]
    have s1 : (withX x f a v).sizes = x.sizes := rfl
    have s2 : (withX x h b u).sizes = x.sizes := rfl
    rw [s1, s2, b1, b2]
    simp only [Bool.not_true, Bool.false_eq_true, if_false]
    by_cases he : f = h
    · subst he
      rw [with_fun h1, with_fun h2]
      have hab : padA a ≠ padA b := fun e => by
        have hB := funB_parts (fun_len (may_parts hm).1 (getD_at (l := g.funs) (i := f.toNat) (d := noFun) (by omega)))
        exact hne ⟨rfl, pad_inj e (by omega) (by omega)⟩
      have hlen : (putRow (putRow (x.funs.getD f.toNat noVal).rows (padA a) v) (padA b) u).length = (putRow (putRow (x.funs.getD f.toNat noVal).rows (padA b) u) (padA a) v).length := by
        have l1 := congrArg List.length (args_put (l := putRow (x.funs.getD f.toNat noVal).rows (padA a) v) (a := padA b) (v := u))
        have l2 := congrArg List.length (args_put (l := putRow (x.funs.getD f.toNat noVal).rows (padA b) u) (a := padA a) (v := v))
        have l3 := congrArg List.length (args_put (l := (x.funs.getD f.toNat noVal).rows) (a := padA a) (v := v))
        have l4 := congrArg List.length (args_put (l := (x.funs.getD f.toNat noVal).rows) (a := padA b) (v := u))
        have k1 : hasA (putRow (x.funs.getD f.toNat noVal).rows (padA a) v) (padA b) = hasA (x.funs.getD f.toNat noVal).rows (padA b) := by
          rw [Bool.eq_iff_iff, hasA_iff, hasA_iff]
          have := args_put (l := (x.funs.getD f.toNat noVal).rows) (a := padA a) (v := v)
          constructor
          · rintro ⟨r, hr, e⟩
            rcases mem_put hr with hr | ⟨e', _⟩
            · exact ⟨r, hr, e⟩
            · exact absurd (e'.symm.trans e) hab
          · rintro ⟨r, hr, e⟩
            have hin : Row.args r ∈ (putRow (x.funs.getD f.toNat noVal).rows (padA a) v).map Row.args := by
              rw [this]
              have := List.mem_map_of_mem (f := Row.args) hr
              split
              · exact this
              · exact List.mem_append_left _ this
            obtain ⟨q, hq, eq⟩ := List.mem_map.1 hin
            exact ⟨q, hq, eq.trans e⟩
        have k2 : hasA (putRow (x.funs.getD f.toNat noVal).rows (padA b) u) (padA a) = hasA (x.funs.getD f.toNat noVal).rows (padA a) := by
          rw [Bool.eq_iff_iff, hasA_iff, hasA_iff]
          have := args_put (l := (x.funs.getD f.toNat noVal).rows) (a := padA b) (v := u)
          constructor
          · rintro ⟨r, hr, e⟩
            rcases mem_put hr with hr | ⟨e', _⟩
            · exact ⟨r, hr, e⟩
            · exact absurd (e.symm.trans e') hab
          · rintro ⟨r, hr, e⟩
            have hin : Row.args r ∈ (putRow (x.funs.getD f.toNat noVal).rows (padA b) u).map Row.args := by
              rw [this]
              have := List.mem_map_of_mem (f := Row.args) hr
              split
              · exact this
              · exact List.mem_append_left _ this
            obtain ⟨q, hq, eq⟩ := List.mem_map.1 hin
            exact ⟨q, hq, eq.trans e⟩
        rw [k1] at l1
        rw [k2] at l2
        clear k1 k2
        generalize (x.funs.getD f.toNat noVal).rows = R at *
        generalize hasA R (padA a) = ka at *
        generalize hasA R (padA b) = kb at *
        cases ka <;> cases kb <;> simp at l1 l2 l3 l4 <;> omega
      simp only []
      rw [hlen]
    · have n1 : h.toNat ≠ f.toNat := by omega
      rw [with_fun_other n1, with_fun_other (Ne.symm n1), if_neg (by omega), if_neg (by omega)]
  refine ⟨hE, fun hz => ?_⟩
  have hz2 := hE.symm.trans hz
  have P := with_other hz f a
  have Q := with_apply hz
  have R := with_other hz2 h b
  have S := with_apply hz2
  obtain ⟨A1, A2⟩ := with_apply h1
  obtain ⟨B1, B2⟩ := with_apply h2
  have PV : applyV g (withX (withX x f a v) h b u) f a = v := by
    rcases P.2 with e | e
    · exact absurd e hne
    · rw [e, A2]
  have RV : applyV g (withX (withX x h b u) f a v) h b = u := by
    rcases R.2 with e | e
    · exact absurd ⟨e.1.symm, e.2.symm⟩ hne
    · rw [e, B2]
  exact ⟨P.1.trans A1, S.1, PV.trans S.2.symm, Q.1, R.1.trans B1, Q.2.trans RV.symm⟩
end Go.Proofs.YtfcmpfaonpnbaaaDoor.Vl
