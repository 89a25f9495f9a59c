import Derived.Test.YtpmdcckapddchaaGreatShort
import Derived.Test.YtpmdcckapddchaaGreatMd
import Derived.Test.YtpmdcckapddchaaGreatMl
import Derived.Test.YtpmdcckapddchaaGreatMh
import Derived.Test.YtpmdcckapddchaaGreatMx
import Derived.Test.YtpmdcckapddchaaGreatMi
/- merged by wip/merge.py from: ElTop ElSort ElMakes -/
/- Sort and Term in plain words; a let of a name that stands for a term. No program in sight. -/
namespace Go.Proofs.YtpmdcckapddchaaGreat.El
open Go.RowKit Go.Proofs.YtpmdcckapddchaaGreat.Dt Go.Proofs.YtpmdcckapddchaaGreat.Sg

def st0 (t : List Node) : St := ⟨t, 0, 0⟩
def sortP (g : Sig) (env : Env) (x : Sexp) : V × St := termP ⟨g, 0, false⟩ g.macros.length x env (st0 [])
def sortO (g : Sig) (env : Env) (x : Sexp) : Int × Int :=
 if checkE g ≠ 0 ∨ x.may = false then (0, 2)
 else if (sortP g env x).2.e = 0 then ((sortP g env x).1.1, 0) else (0, (sortP g env x).2.e)
def envOf (vars : List Param) : Env := (vars.map fun p => (p.name, (p.sort, (0 : Int)))).reverse
def makeP (g : Sig) (most : Int) (x : Sexp) (t : List Node) : V × St := termP ⟨g, most, true⟩ g.macros.length x [] (st0 t)
def termO (g : Sig) (t : List Node) (x : Sexp) (most : Int) : List Node × Int × Int :=
 if tableE g t ≠ 0 then ([], 0, 2)
 else if (sortO g [] x).2 ≠ 0 then ([], 0, (sortO g [] x).2)
 else if (makeP g most x t).2.e ≠ 0 then ([], 0, (makeP g most x t).2.e)
 else ((makeP g most x t).2.t, (makeP g most x t).1.2, 0)

def nmN : ByteArray := { data := #[97, 32, 110, 97, 109, 101, 32, 116, 104, 97, 116, 32, 110, 111, 116, 104, 105, 110, 103, 32, 104, 97, 115] }
def noB : ByteArray := { data := #[] }
def symX (s : ByteArray) : Sexp := .mk 0 s []
def pairX (s : ByteArray) (x : Sexp) : Sexp := .mk 3 noB [symX s, x]
def letX (x : Sexp) : Sexp := .mk 3 noB [symX sLet, .mk 3 noB [pairX nmN x], symX nmN]
theorem isNum_sym (s : ByteArray) : isNumX (symX s) = false := by
 unfold isNumX numN symX
 rw [if_neg (by show ¬ (0 : Int) = 1; decide), if_neg (by show ¬ ({ data := #[] } : ByteArray) = sMinus; decide)]
 rfl
theorem isNum_head {s : ByteArray} {l : List Sexp} (h : s ≠ sMinus) : isNumX (.mk 3 noB (symX s :: l)) = false := by
 unfold isNumX numN
 rw [if_neg (by show ¬ (3 : Int) = 1; decide), if_neg (by unfold headS; show ¬ (if (3 : Int) = 3 ∧ (0 : Int) = 0 then s else _) = _; rw [if_pos (by decide)]; exact h)]
 rfl
theorem sym_step {c : Cx} {known : Nat} {s : ByteArray} {env : Env} {v : V} (hf : findE env s = some v) (st : St) : termP c known (symX s) env st = if st.e ≠ 0 then (v0, st) else (v, st) := by
 rw [termP_eq]
 unfold termStep
 split
 ·rfl
 rw [isNum_sym, if_neg (by decide), if_neg (by unfold isListB symX; simp [Sexp.kind]), if_neg (by show ¬ (0 : Int) ≠ 0; decide)]
 show (match findE env s with | some v => (v, st) | none => _) = _
 rw [hf]
theorem bound_letX (x : Sexp) : boundN (letX x) = some [nmN] := by
 unfold boundN letX
 simp only [Sexp.l, Sexp.kind]
 rw [if_pos ⟨trivial, by simp⟩]
 simp only [List.foldl_cons, List.foldl_nil, Option.bind_some]
 have : bindN (pairX nmN x) = some nmN := by
  unfold bindN pairX symX
  simp only [Sexp.l, Sexp.kind, Sexp.text]
  rw [if_pos trivial, if_pos ⟨trivial, by decide +kernel⟩]
 rw [this]
 rfl
theorem let_step (c : Cx) (known : Nat) (x : Sexp) (st : St) (h0 : st.e = 0) : termP c known (letX x) [] st = if (termP c known x [] st).2.e ≠ 0 then (v0, (termP c known x [] st).2) else termP c known x [] st := by
 rw [termP_eq]
 unfold termStep
 rw [if_neg (by rw [h0]; decide)]
 have h1 : isNumX (letX x) = false := isNum_head (by decide)
 rw [h1, if_neg (by decide), if_pos (by unfold isListB letX symX; simp [Sexp.l, Sexp.kind])]
 unfold listM
 rw [if_pos (by unfold headS letX symX; simp [Sexp.l, Sexp.kind, Sexp.text])]
 unfold letM
 rw [bound_letX]
 have e1 : ((nthX (letX x) 1).l.map secondX) = [x] := rfl
 have e2 : nthX (letX x) 2 = symX nmN := rfl
 simp only [e1, e2, allM]
 rw [sym_step (v := (termP c known x [] st).1) (by unfold findE; simp)]
theorem lets_plain (g : Sig) (x : Sexp) (t : List Node) (most : Int) (h1 : x.may = true) (h2 : (letX x).may = true) : termO g t (letX x) most = termO g t x most := by
 have hs : (sortO g [] (letX x)).2 = (sortO g [] x).2 := by
  unfold sortO
  rw [h1, h2]
  unfold sortP
  rw [let_step _ _ _ _ rfl]
  generalize termP ⟨g, 0, false⟩ g.macros.length x [] (st0 []) = p
  by_cases hp : p.2.e = 0
  ·simp [hp]
  ·simp [hp]
 unfold termO
 rw [hs]
 split
 ·rfl
 split
 ·rfl
 unfold makeP
 rw [let_step _ _ _ _ rfl]
 generalize termP ⟨g, most, true⟩ g.macros.length x [] (st0 t) = p
 by_cases hp : p.2.e = 0
 ·simp [hp]
 ·simp [hp]
end Go.Proofs.YtpmdcckapddchaaGreat.El
/- Sort: an expression's sort, variables known. -/
namespace Go.Proofs.YtpmdcckapddchaaGreat.El
open Go.RowKit Go.Maps Go.Proofs.YtpmdcckapddchaaGreat.Dt Go.Proofs.YtpmdcckapddchaaGreat.Sg

def pairV (q : Param) : ByteArray × V := (q.name, (q.sort, (0 : Int)))
theorem envOf_eq (vars : List Param) : envOf vars = (vars.map pairV).reverse := rfl
theorem par_sort {W0 : World} {A : Option Addr} {l : List Param} (h : Lies 2 ParamR W0 A l) {q : Param} (hq : q ∈ l) : I64 q.sort := by
 obtain ⟨k, hk⟩ := List.getElem?_of_mem hq
 obtain ⟨_, _, _, _, _, _, _, _, _, hs⟩ := h.at' hk
 exact hs
theorem Mk.made {F : Fix} {W : World} {known : Int} {t : List Node} {At : Option Addr} {ct : Nat} (hmb : F.mb = W.heap.size) (hb : Below F.W0.heap.size F.W0 W) (ht : Lies 8 NodeR W At t) (hle : t.length ≤ ct) (hlm : ct ≤ maxLen) (hlen : t.length ≤ 1000000) :
  Mk F (W.alloc (.cells #[.slice F.A1 F.c.g.sorts.length F.c1, .slice F.A2 F.c.g.funs.length F.c2, .slice F.A3 F.c.g.macros.length F.c3, .slice At t.length ct, .int .i64 F.c.most, .bool F.c.build, .int .i64 known, .int .i64 0, .int .i64 0] 67)) known (st0 t) At ct := by
 refine ⟨by rw [hmb]; exact Bk.new W _, hle, hlm, hlen, ht.on NodeR.lasts ((Below.refl _ _).alloc (Nat.le_refl _) _), fun hn b o e => ?_, ⟨by show (0 : Int) ≤ 0; omega, by show (0 : Int) ≤ 301; omega, fun _ => by show (0 : Int) ≤ 300; omega⟩, hb.alloc hb.size _⟩
 have := lies_lt ht hn b o e
 omega
set_option maxRecDepth 100000 in
set_option maxHeartbeats 25600000 in
theorem sort_any {w : World} {A1 A2 A3 : Option Addr} {c1 c2 c3 : Nat} {g : Sig} (h : SigAt w A1 c1 A2 c2 A3 c3 g) (hl1 : g.sorts.length ≤ 1000000) (hl2 : g.funs.length ≤ 1000000) (hl3 : g.macros.length ≤ 1000000) (hM : ∀ m ∈ g.macros, m.body.full ≤ 3000000) {Av : Option Addr} {vars : List Param} (cv : Nat) (hv : Lies 2 ParamR w Av vars) (hvl : vars.length ≤ 1000000) {A : Option Addr} {c : Nat} {x : Sexp} (hx : XAt w A c x) (hfx : x.full ≤ 3000000) :
  Calls Tryz.prog 18 #[.agg #[.slice A1 g.sorts.length c1, .slice A2 g.funs.length c2, .slice A3 g.macros.length c3], .slice Av vars.length cv, .agg #[.int .i8 x.kind, .string x.text, .slice A x.l.length c]] w fun e w' => e = .returned (.tuple #[.int .i64 (sortO g (envOf vars) x).1, .int .i64 (sortO g (envOf vars) x).2]) ∧ Below w.heap.size w w' := by
 have HO := kp (show sortO g (envOf vars) x = if checkE g ≠ 0 ∨ x.may = false then (0, 2) else if (sortP g (envOf vars) x).2.e = 0 then ((sortP g (envOf vars) x).1.1, 0) else (0, (sortP g (envOf vars) x).2.e) from rfl)
 have HSg := kp h
 have HX := kp hx
 have HV := kp hv
 have HMf := kp hM
 have HFx := kp hfx
 have B2 := kp ((((Below.refl w.heap.size w).alloc (Nat.le_refl _) (.cells #[.slice A1 g.sorts.length c1, .slice A2 g.funs.length c2, .slice A3 g.macros.length c3] 26)).alloc (by simp) (.cells #[.int .i8 x.kind, .string x.text, .slice A x.l.length c] 30)))
 have S2 := kp (Bk.keep (Bk.new w (.cells #[.slice A1 g.sorts.length c1, .slice A2 g.funs.length c2, .slice A3 g.macros.length c3] 26)) (.cells #[.int .i8 x.kind, .string x.text, .slice A x.l.length c] 30))
 have X2 := kp (show ((w.alloc (.cells #[.slice A1 g.sorts.length c1, .slice A2 g.funs.length c2, .slice A3 g.macros.length c3] 26)).alloc (.cells #[.int .i8 x.kind, .string x.text, .slice A x.l.length c] 30)).heap[w.heap.size + 1]? = some (.cells #[.int .i8 x.kind, .string x.text, .slice A x.l.length c] 30 (0, 0)) by have h := Bk.new (w.alloc (.cells #[.slice A1 g.sorts.length c1, .slice A2 g.funs.length c2, .slice A3 g.macros.length c3] 26)) (.cells #[.int .i8 x.kind, .string x.text, .slice A x.l.length c] 30); simpa using h)
 have HChk := kp (fun W (hW : Below w.heap.size w W) => check_any (h.on hW) (by omega) (by omega) (by omega))
 have HMay := kp (fun W (hW : Below w.heap.size w W) => sxmay_any (hx.on hW))
 clear h hx hv hM hfx
 generalize hso : sortO g (envOf vars) x = so at *
 clear hso
 go_enter Tryz.func18, Tryz.ntmps18
 go_upto_region 1 with fail
 generalize (w.alloc (.cells #[.slice A1 g.sorts.length c1, .slice A2 g.funs.length c2, .slice A3 g.macros.length c3] 26)).alloc (.cells #[.int .i8 x.kind, .string x.text, .slice A x.l.length c] 30) = w2 at *
 obtain ⟨s0, s1, s2, sf⟩ := Bk.c3 S2.out
 have HC := kp (HChk.out w2 B2.out)
 by_cases hck : checkE g = 0
 ·have HCk := kp hck
  rw [hck] at HC
  clear hck
  go_wp2_with fail
  refine HC.out.mono ?_
  rintro e w3 ⟨rfl, hb3⟩
  have B3 := kp (B2.out.trans (hb3.mono B2.out.size))
  have S3 := kp (Bk.on S2.out hb3)
  have X3 := kp (Bk.on X2.out hb3)
  clear hb3 s0 s1 s2 sf
  obtain ⟨q0, q1, q2, qf⟩ := Bk.c3 X3.out
  have HY := kp (HMay.out w3 B3.out)
  cases hmy : x.may with
  | false =>
   rw [hmy] at HY
   replace HO := kp (show so = (0, 2) by rw [HO.out, if_pos (.inr hmy)])
   go_wp2_with fail
   refine HY.out.mono ?_
   rintro e w4 ⟨rfl, hb4⟩
   have B4 := kp (B3.out.trans (hb4.mono B3.out.size))
   clear hb4
   go_wp2_with fail
   go_ret2
   exact ⟨by rw [HO.out]; rfl, B4.out⟩
  | true =>
   rw [hmy] at HY
   replace HO := kp (show so = if (sortP g (envOf vars) x).2.e = 0 then ((sortP g (envOf vars) x).1.1, 0) else (0, (sortP g (envOf vars) x).2.e) by rw [HO.out, if_neg (fun h => by rcases h with h | h; exact h HCk.out; rw [h] at hmy; cases hmy)])
   clear hmy
   have hmm := @run_makeMap Tryz.prog
   go_wp2_with fail
   refine HY.out.mono ?_
   rintro e w4 ⟨rfl, hb4⟩
   have B4 := kp (B3.out.trans (hb4.mono B3.out.size))
   have S4 := kp (Bk.on S3.out hb4)
   have X4 := kp (Bk.on X3.out hb4)
   clear hb4 q0 q1 q2 qf S2 S3 X2 X3 B2 B3
   have M5 := kp (KeyMap.below (KeyMap.made (kt := 9) (key := strKV) w4) ((Below.refl _ _).alloc (Nat.le_refl _) (.cells #[.pointer none, .map (some w4.heap.size)] 76)))
   have B5 := kp ((B4.out.alloc B4.out.size (.map #[] 0)).alloc (B4.out.alloc B4.out.size (.map #[] 0)).size (.cells #[.pointer none, .map (some w4.heap.size)] 76))
   have C5 := kp (show ((w4.alloc (.map #[] 0)).alloc (.cells #[.pointer none, .map (some w4.heap.size)] 76)).heap[w4.heap.size + 1]? = some (.cells #[.pointer none, .map (some w4.heap.size)] 76 (0, 0)) by have h := Bk.new (w4.alloc (.map #[] 0)) (.cells #[.pointer none, .map (some w4.heap.size)] 76); simpa using h)
   have S5 := kp (Bk.keep (Bk.keep S4.out (.map #[] 0)) (.cells #[.pointer none, .map (some w4.heap.size)] 76))
   have X5 := kp (Bk.keep (Bk.keep X4.out (.map #[] 0)) (.cells #[.pointer none, .map (some w4.heap.size)] 76))
   have hms := lt_of_block S4.out
   have hmx := lt_of_block X4.out
   go_upto_region 4 with fail
   generalize (w4.alloc (.map #[] 0)).alloc (.cells #[.pointer none, .map (some w4.heap.size)] 76) = w5 at *
   generalize w4.heap.size = mpb at *
   clear hmm
   go_wp2_with fail
   go_loopw [26] (fun i' wr => ∃ k : Nat, k ≤ vars.length ∧ i' = .int .i64 k ∧ Below w.heap.size w wr ∧ wr.heap[mpb + 1]? = some (.cells #[.pointer none, .map (some mpb)] 76 (0, 0)) ∧ wr.heap[w.heap.size]? = some (.cells #[.slice A1 g.sorts.length c1, .slice A2 g.funs.length c2, .slice A3 g.macros.length c3] 26 (0, 0)) ∧ wr.heap[w.heap.size + 1]? = some (.cells #[.int .i8 x.kind, .string x.text, .slice A x.l.length c] 30 (0, 0)) ∧ KeyMap 9 strKV wr mpb k (fun s => (findE ((vars.take k).map pairV).reverse s).map valV)) (fun i' _ => vars.length - (intOf i').toNat)
   case atStart => exact ⟨0, Nat.zero_le _, rfl, B5.out, C5.out, S5.out, X5.out, KeyMap.congr M5.out (fun s => by simp [findE])⟩
   case round =>
    obtain ⟨k, hk, rfl, hb, hc, hs, hx, hkm⟩ := hrel
    have BR := kp hb
    have CR := kp hc
    have SR := kp hs
    have XR := kp hx
    have KM := kp hkm
    clear hb hc hs hx hkm
    by_cases hkl : k < vars.length
    ·have hlt2 : (k : Int) < (vars.length : Int) := by omega
     obtain ⟨q, hq⟩ : ∃ q, vars[k]? = some q := ⟨_, List.getElem?_eq_getElem hkl⟩
     obtain ⟨pb, po, rfl, hqn, hqc⟩ := par_get HV.out hq
     obtain ⟨p0, p1⟩ := hqc wr BR.out
     have HTk := kp (show ((vars.take (k + 1)).map pairV).reverse = pairV q :: ((vars.take k).map pairV).reverse by rw [List.take_add_one, hq]; simp)
     have CA := kp (Bk.keep CR.out (.cells #[.string q.name, .int .i64 q.sort] 59))
     have SA := kp (Bk.keep SR.out (.cells #[.string q.name, .int .i64 q.sort] 59))
     have XA := kp (Bk.keep XR.out (.cells #[.string q.name, .int .i64 q.sort] 59))
     have QA := kp (Bk.new wr (.cells #[.string q.name, .int .i64 q.sort] 59))
     have BA := kp (BR.out.alloc BR.out.size (.cells #[.string q.name, .int .i64 q.sort] 59))
     have KA := kp (KeyMap.below KM.out ((Below.refl wr.heap.size wr).alloc (Nat.le_refl _) (.cells #[.string q.name, .int .i64 q.sort] 59)))
     have hqm : wr.heap.size ≠ mpb := Nat.ne_of_gt KM.out.lt
     clear hq hqc
     go_upto_region 7 with fail
     generalize wr.alloc (.cells #[.string q.name, .int .i64 q.sort] 59) = wa at *
     generalize wr.heap.size = qb at *
     clear p0 p1
     have B0 := kp (Below.refl wa.heap.size wa).drew
     have CD := kp (Bk.on CA.out B0.out)
     have SD := kp (Bk.on SA.out B0.out)
     have XD := kp (Bk.on XA.out B0.out)
     have QD := kp (Bk.on QA.out B0.out)
     have BD := kp (BA.out.trans (B0.out.mono BA.out.size))
     have KD := kp (KeyMap.below KA.out B0.out)
     generalize hwd : wa.drew = wd at *
     obtain ⟨v8, u8, m8, g8⟩ := KeyMap.store (a := q.name) (t := 74) (e := 69) KD.out string_key str_inj Tryz.underlying74 (by unfold maxLen; omega) (keyOf_str hqn) (valV (q.sort, 0))
     unfold valV at u8
     replace u8 : (Instr.mapUpdate 74 (.map (some mpb)) (.string q.name) (.agg #[.int .i64 q.sort, .int .i64 0])).run Tryz.prog wd = .ok () v8 := u8
     have K8 := kp (show Keeps (fun k => k = mpb) wd v8 from (Keeps.refl _ wd).grown g8 (fun j hj => .inl (Option.some.inj hj).symm))
     have HC6 := kp (fun W (hW : Keeps (fun k => k = mpb) wd W) => (hW.block (mpb + 1) (lt_of_block CD.out) (by omega)).trans CD.out)
     have HQ6 := kp (fun W (hW : Keeps (fun k => k = mpb) wd W) => (hW.block qb (lt_of_block QD.out) hqm).trans QD.out)
     refine wp_region_held_drew (S := fun W => Keeps (fun k => k = mpb) wd W) (by kernel_rfl) ((by rw [hwd]; exact Keeps.refl _ _)) (fun hHeld => ?_)
     refine tk 0 (v := ?_) ?_ ?_
     rotate_left
     ·(intro w hSw; go_simp; try with_reducible rfl)
     try simp only [pt]
     refine tk 1 (v := ?_) ?_ ?_
     rotate_left
     ·(intro w hSw; go_simp; try with_reducible rfl)
     try simp only [pt]
     refine tk 2 (v := ?_) ?_ ?_
     rotate_left
     ·(intro w hSw; go_simp; try with_reducible rfl)
     try simp only [pt]
     refine tk 3 (v := ?_) ?_ ?_
     rotate_left
     ·(intro w hSw; (obtain ⟨n0, n1, nf⟩ := Bk.c2 (HC6.out _ hSw); go_simp; try with_reducible rfl))
     try simp only [pt]
     refine tk 4 (v := ?_) ?_ ?_
     rotate_left
     ·(intro w hSw; go_simp; try with_reducible rfl)
     try simp only [pt]
     refine tk 5 (v := ?_) ?_ ?_
     rotate_left
     ·(intro w hSw; (obtain ⟨n0, n1, nf⟩ := Bk.c2 (HQ6.out _ hSw); go_simp; try with_reducible rfl))
     try simp only [pt]
     refine tk 6 (v := ?_) ?_ ?_
     rotate_left
     ·(intro w hSw; go_simp; try with_reducible rfl)
     try simp only [pt]
     refine tk 7 (v := ?_) ?_ ?_
     rotate_left
     ·(intro w hSw; (obtain ⟨n0, n1, nf⟩ := Bk.c2 (HQ6.out _ hSw); go_simp; try with_reducible rfl))
     try simp only [pt]
     refine tk 8 (v := ?_) ?_ ?_
     rotate_left
     ·(intro w hSw; go_simp; try with_reducible rfl)
     try simp only [pt]
     rw [hwd]
     refine rd 9 fun K hK => ?_
     go_simp
     refine hK.out _ _ (K8.out) (fun hHeld => ?_)
     clear hK K
     try simp only [pt]
     refine wpAnyH_done (by kernel_rfl) ?_ _
     have B8 := kp (BD.out.trans (K8.out.below (B := w.heap.size) (fun k e => by omega) BD.out.size))
     have C8 := kp (HC6.out _ K8.out)
     have S8 := kp ((K8.out.block w.heap.size (lt_of_block SD.out) (by omega)).trans SD.out)
     have X8 := kp ((K8.out.block (w.heap.size + 1) (lt_of_block XD.out) (by omega)).trans XD.out)
     have M8 := kp (KeyMap.congr (H := fun s => (findE ((vars.take (k + 1)).map pairV).reverse s).map valV) m8 (fun s => by rw [HTk.out]; exact (findE_cons _ _ _ _).symm))
     clear m8 g8
     go_wp2_with fail
     go_roundw
     case rel => exact ⟨k + 1, by omega, by go_num, B8.out, C8.out, S8.out, X8.out, M8.out⟩
     case measure => simp [intOf]; omega
    ·obtain rfl : k = vars.length := by omega
     have KZ := kp (KeyMap.congr (H := fun s => (findE (envOf vars) s).map valV) KM.out (fun s => by rw [List.take_length]; rfl))
     have hms2 := KZ.out.lt
     have hmz := lt_of_block CR.out
     have C6 := kp (Bk.keep CR.out (.cells #[.slice A1 g.sorts.length c1, .slice A2 g.funs.length c2, .slice A3 g.macros.length c3, .slice none 0 0, .int .i64 0, .bool false, .int .i64 (g.macros.length : Int), .int .i64 0, .int .i64 0] 67))
     have X6 := kp (Bk.keep XR.out (.cells #[.slice A1 g.sorts.length c1, .slice A2 g.funs.length c2, .slice A3 g.macros.length c3, .slice none 0 0, .int .i64 0, .bool false, .int .i64 (g.macros.length : Int), .int .i64 0, .int .i64 0] 67))
     have B6 := kp (BR.out.alloc BR.out.size (.cells #[.slice A1 g.sorts.length c1, .slice A2 g.funs.length c2, .slice A3 g.macros.length c3, .slice none 0 0, .int .i64 0, .bool false, .int .i64 (g.macros.length : Int), .int .i64 0, .int .i64 0] 67))
     obtain ⟨F, hFe⟩ : ∃ F : Fix, F = ⟨w, wr.heap.size, A1, c1, A2, c2, A3, c3, ⟨g, 0, false⟩⟩ := ⟨_, rfl⟩
     have hFk : FixOk F := by
      subst hFe
      exact ⟨HSg.out, HCk.out, BR.out.size, by show (0 : Int) ≤ 1000000; omega, v0_VI.1⟩
     have hFm : F.mb = wr.heap.size := by rw [hFe]
     have HC := kp (show Calls Tryz.prog 29 #[.pointer (some ⟨wr.heap.size, 0, none⟩), .agg #[.int .i8 x.kind, .string x.text, .slice A x.l.length c], .pointer (some ⟨mpb + 1, 0, none⟩)] (wr.alloc (.cells #[.slice A1 g.sorts.length c1, .slice A2 g.funs.length c2, .slice A3 g.macros.length c3, .slice none 0 0, .int .i64 0, .bool false, .int .i64 (g.macros.length : Int), .int .i64 0, .int .i64 0] 67)) (MkPost F (g.macros.length : Nat) (wr.alloc (.cells #[.slice A1 g.sorts.length c1, .slice A2 g.funs.length c2, .slice A3 g.macros.length c3, .slice none 0 0, .int .i64 0, .bool false, .int .i64 (g.macros.length : Int), .int .i64 0, .int .i64 0] 67)) [] none (sortP g (envOf vars) x).1 (sortP g (envOf vars) x).2) by
      subst hFe
      have hm := Mk.made (F := ⟨w, wr.heap.size, A1, c1, A2, c2, A3, c3, ⟨g, 0, false⟩⟩) (W := wr) (known := (g.macros.length : Int)) (t := []) (At := none) (ct := 0) rfl BR.out (.inl rfl) (Nat.le_refl _) (by unfold maxLen; omega) (by simp)
      have hen := (EnvS.nil ⟨w, wr.heap.size, A1, c1, A2, c2, A3, c3, ⟨g, 0, false⟩⟩ (wr.alloc (.cells #[.slice A1 g.sorts.length c1, .slice A2 g.funs.length c2, .slice A3 g.macros.length c3, .slice none 0 0, .int .i64 0, .bool false, .int .i64 (g.macros.length : Int), .int .i64 0, .int .i64 0] 67))).cons C6.out (KeyMap.below KZ.out ((Below.refl wr.heap.size wr).alloc (Nat.le_refl _) _)) (fun q hq => by
       rw [envOf_eq, List.mem_reverse, List.mem_map] at hq
       obtain ⟨u, hu, rfl⟩ := hq
       exact ⟨par_sort HV.out hu, v0_VI.1⟩) (by show mpb + 1 ≠ wr.heap.size; omega) (by show mpb ≠ wr.heap.size; omega)
      rw [List.append_nil] at hen
      exact term_any hFk HMf.out _ g.macros.length x (Nat.lt_succ_self _) HFx.out hm HX.out hen)
     generalize sortP g (envOf vars) x = pr at *
     obtain ⟨pv, ps⟩ := pr
     clear hFe C6 CR KZ KM HV HMf
     obtain ⟨s0, s1, s2, sf⟩ := Bk.c3 SR.out
     go_upto_region 10 with fail
     generalize wr.alloc (.cells #[.slice A1 g.sorts.length c1, .slice A2 g.funs.length c2, .slice A3 g.macros.length c3, .slice none 0 0, .int .i64 0, .bool false, .int .i64 (g.macros.length : Int), .int .i64 0, .int .i64 0] 67) = w6 at *
     generalize wr.heap.size = mb at *
     clear s0 s1 s2 sf
     obtain ⟨q0, q1, q2, qf⟩ := Bk.c3 X6.out
     go_wp2_with fail
     refine HC.out.mono ?_
     rintro e w7 ⟨rfl, hv, hk7, A7, c7, hm7, ht7⟩
     have B7 := kp (show Below w.heap.size w w7 from B6.out.trans (hk7.below (fun k hk => by unfold onMb at hk; have := BR.out.size; omega) B6.out.size))
     have hb7 := hm7.blk
     rw [hFm] at hb7
     have MB8 := kp (Bk.keep hb7 (.cells #[.int .i64 pv.1, .int .i64 pv.2] 69))
     have V8 := kp (Bk.new w7 (.cells #[.int .i64 pv.1, .int .i64 pv.2] 69))
     have B8 := kp (B7.out.alloc B7.out.size (.cells #[.int .i64 pv.1, .int .i64 pv.2] 69))
     unfold valV
     clear hv hk7 hm7 ht7 hb7 q0 q1 q2 qf
     go_upto_region 11 with fail
     generalize w7.alloc (.cells #[.int .i64 pv.1, .int .i64 pv.2] 69) = w8 at *
     generalize w7.heap.size = vb at *
     obtain ⟨m0, m1, m2, m3, m4, m5, m6, m7, m8, mf⟩ := Bk.c9 MB8.out
     obtain ⟨y0, y1, yf⟩ := Bk.c2 V8.out
     by_cases he : ps.e = 0
     ·have he1 : (ps.e == 0) = true := by simp [he]
      replace HO := kp (show so = (pv.1, 0) by rw [HO.out, if_pos he])
      clear he
      go_wp2_with fail
      go_ret2
      exact ⟨by rw [HO.out]; rfl, B8.out⟩
     ·have he1 : (ps.e == 0) = false := by simp [he]
      replace HO := kp (show so = (0, ps.e) by rw [HO.out, if_neg he])
      clear he
      go_upto_region 13 with fail
      have B0 := kp (Below.refl w8.heap.size w8).drew
      refine wp_region_held_drew (S := fun W => Below w8.heap.size w8 W) (by kernel_rfl) (B0.out) (fun hHeld => ?_)
      refine tk 0 (v := ?_) ?_ ?_
      rotate_left
      ·(intro w hSw; go_simp; try with_reducible rfl)
      try simp only [pt]
      refine tk 1 (v := ?_) ?_ ?_
      rotate_left
      ·(intro w hSw; go_simp; try with_reducible rfl)
      try simp only [pt]
      refine tk 2 (v := ?_) ?_ ?_
      rotate_left
      ·(intro w hSw; go_simp; try with_reducible rfl)
      try simp only [pt]
      refine tk 3 (v := ?_) ?_ ?_
      rotate_left
      ·(intro w hSw; (obtain ⟨m0, m1, m2, m3, m4, m5, m6, m7, m8, mf⟩ := Bk.c9 (Bk.on MB8.out hSw); go_simp; try with_reducible rfl))
      try simp only [pt]
      refine tk 4 (v := ?_) ?_ ?_
      rotate_left
      ·(intro w hSw; go_simp; try with_reducible rfl)
      try simp only [pt]
      refine tk 5 (v := ?_) ?_ ?_
      rotate_left
      ·(intro w hSw; go_simp; try with_reducible rfl)
      try simp only [pt]
      refine wpAnyH_done (by kernel_rfl) ?_ _
      go_wp2_with fail
      go_ret2
      exact ⟨by rw [HO.out]; rfl, B8.out.trans (B0.out.mono B8.out.size)⟩
 ·have hck' : (checkE g != 0) = true := by rw [bne_iff_ne]; exact hck
  replace HO := kp (show so = (0, 2) by rw [HO.out, if_pos (.inl hck)])
  clear hck
  go_wp2_with fail
  refine HC.out.mono ?_
  rintro e w3 ⟨rfl, hb3⟩
  have B3 := kp (B2.out.trans (hb3.mono B2.out.size))
  clear hb3
  go_wp2_with fail
  go_ret2
  exact ⟨by rw [HO.out]; rfl, B3.out⟩
end Go.Proofs.YtpmdcckapddchaaGreat.El
/- Term: an expression made. -/
namespace Go.Proofs.YtpmdcckapddchaaGreat.El
open Go.RowKit Go.Maps Go.Proofs.YtpmdcckapddchaaGreat.Dt Go.Proofs.YtpmdcckapddchaaGreat.Sg

def MakesPost (w : World) (o : List Node × Int × Int) (e : Ending) (w' : World) : Prop :=
 ∃ A' c', e = .returned (.tuple #[.agg #[.slice A' o.1.length c'], .int .i64 o.2.1, .int .i64 o.2.2]) ∧ Lies 8 NodeR w' A' o.1 ∧ o.1.length ≤ c' ∧ c' ≤ maxLen ∧ o.1.length ≤ 1000000 ∧ I64 o.2.1 ∧ Below w.heap.size w w'
theorem makes_ret {f : Func} {w0 w : World} {b : Nat} {A' : Option Addr} {c' : Nat} {o : List Node × Int × Int} {act : Act} (hf : f.results = #[.cell 8 38, .tmp 9, .tmp 10]) (hb : w.heap[b]? = some (.cells #[.slice A' o.1.length c'] 38 (0, 0))) (h2 : act.tmps[8]? = some (.pointer (some ⟨b, 0, none⟩))) (h3 : act.tmps[9]? = some (.int .i64 o.2.1)) (h4 : act.tmps[10]? = some (.int .i64 o.2.2)) (hd : act.defers = [])
  (hl : Lies 8 NodeR w A' o.1) (hle : o.1.length ≤ c') (hlm : c' ≤ maxLen) (hlen : o.1.length ≤ 1000000) (hi : I64 o.2.1) (hB : Below w0.heap.size w0 w) : bodyPost Tryz.prog f (MakesPost w0 o) .ret act w := by
 obtain ⟨y0, _⟩ := Bk.c1 hb
 refine bodyPost_ret (v := .tuple #[.agg #[.slice A' o.1.length c'], .int .i64 o.2.1, .int .i64 o.2.2]) ?_ hd ⟨A', c', rfl, hl, hle, hlm, hlen, hi, hB⟩
 simp [results, hf, go_sem, y0, h2, h3, h4]
theorem lies_other {w : World} {At : Option Addr} {t : List Node} {k j : Nat} {u : Value} (h : Lies 8 NodeR w At t) (hf : Far k t At) : Lies 8 NodeR (w.setCell ⟨k, j, none⟩ u) At t :=
 lies_block h (by simp [World.setCell]) (fun hn b o e => Below.heap_setCell w ⟨k, j, none⟩ u b (hf hn b o e))
set_option maxRecDepth 100000 in
set_option maxHeartbeats 25600000 in
theorem makes_any {w : World} {A1 A2 A3 : Option Addr} {c1 c2 c3 : Nat} {g : Sig} (h : SigAt w A1 c1 A2 c2 A3 c3 g) (hl1 : g.sorts.length ≤ 1000000) (hl2 : g.funs.length ≤ 1000000) (hl3 : g.macros.length ≤ 1000000) (hM : ∀ m ∈ g.macros, m.body.full ≤ 3000000) {At : Option Addr} {t : List Node} {ct : Nat} (ht : Lies 8 NodeR w At t) (htl : t.length ≤ 1000000) (htc : t.length ≤ ct) (htm : ct ≤ maxLen) {A : Option Addr} {c : Nat} {x : Sexp} (hx : XAt w A c x) (hfx : x.full ≤ 3000000) (most : Int) (hmo : I64 most) (hm6 : most ≤ 1000000) :
  Calls Tryz.prog 13 #[.agg #[.slice A1 g.sorts.length c1, .slice A2 g.funs.length c2, .slice A3 g.macros.length c3], .agg #[.slice At t.length ct], .agg #[.int .i8 x.kind, .string x.text, .slice A x.l.length c], .int .i64 most] w (MakesPost w (termO g t x most)) := by
 have HO := kp (show termO g t x most = if tableE g t ≠ 0 then ([], 0, 2)
  else if (sortO g [] x).2 ≠ 0 then ([], 0, (sortO g [] x).2)
  else if (makeP g most x t).2.e ≠ 0 then ([], 0, (makeP g most x t).2.e)
  else ((makeP g most x t).2.t, (makeP g most x t).1.2, 0) from rfl)
 have HSg := kp h
 have HX := kp hx
 have HT := kp ht
 have HMf := kp hM
 have HFx := kp hfx
 have B3 := kp (((((Below.refl w.heap.size w).alloc (Nat.le_refl _) (.cells #[.slice A1 g.sorts.length c1, .slice A2 g.funs.length c2, .slice A3 g.macros.length c3] 26)).alloc (by simp) (.cells #[.slice At t.length ct] 38)).alloc (by simp; omega) (.cells #[.int .i8 x.kind, .string x.text, .slice A x.l.length c] 30)).alloc (by simp; omega) (.cells #[.slice none 0 0] 38))
 have S3 := kp (Bk.keep (Bk.keep (Bk.keep (Bk.new w (.cells #[.slice A1 g.sorts.length c1, .slice A2 g.funs.length c2, .slice A3 g.macros.length c3] 26)) (.cells #[.slice At t.length ct] 38)) (.cells #[.int .i8 x.kind, .string x.text, .slice A x.l.length c] 30)) (.cells #[.slice none 0 0] 38))
 have T3 := kp (Bk.keep (Bk.keep (show ((w.alloc (.cells #[.slice A1 g.sorts.length c1, .slice A2 g.funs.length c2, .slice A3 g.macros.length c3] 26)).alloc (.cells #[.slice At t.length ct] 38)).heap[w.heap.size + 1]? = some (.cells #[.slice At t.length ct] 38 (0, 0)) by have h := Bk.new (w.alloc (.cells #[.slice A1 g.sorts.length c1, .slice A2 g.funs.length c2, .slice A3 g.macros.length c3] 26)) (.cells #[.slice At t.length ct] 38); simpa using h) (.cells #[.int .i8 x.kind, .string x.text, .slice A x.l.length c] 30)) (.cells #[.slice none 0 0] 38))
 have X3 := kp (Bk.keep (show (((w.alloc (.cells #[.slice A1 g.sorts.length c1, .slice A2 g.funs.length c2, .slice A3 g.macros.length c3] 26)).alloc (.cells #[.slice At t.length ct] 38)).alloc (.cells #[.int .i8 x.kind, .string x.text, .slice A x.l.length c] 30)).heap[w.heap.size + 2]? = some (.cells #[.int .i8 x.kind, .string x.text, .slice A x.l.length c] 30 (0, 0)) by have h := Bk.new ((w.alloc (.cells #[.slice A1 g.sorts.length c1, .slice A2 g.funs.length c2, .slice A3 g.macros.length c3] 26)).alloc (.cells #[.slice At t.length ct] 38)) (.cells #[.int .i8 x.kind, .string x.text, .slice A x.l.length c] 30); simpa using h) (.cells #[.slice none 0 0] 38))
 have R3 := kp (show ((((w.alloc (.cells #[.slice A1 g.sorts.length c1, .slice A2 g.funs.length c2, .slice A3 g.macros.length c3] 26)).alloc (.cells #[.slice At t.length ct] 38)).alloc (.cells #[.int .i8 x.kind, .string x.text, .slice A x.l.length c] 30)).alloc (.cells #[.slice none 0 0] 38)).heap[w.heap.size + 3]? = some (.cells #[.slice none 0 0] 38 (0, 0)) by have h := Bk.new (((w.alloc (.cells #[.slice A1 g.sorts.length c1, .slice A2 g.funs.length c2, .slice A3 g.macros.length c3] 26)).alloc (.cells #[.slice At t.length ct] 38)).alloc (.cells #[.int .i8 x.kind, .string x.text, .slice A x.l.length c] 30)) (.cells #[.slice none 0 0] 38); simpa using h)
 have HTb := kp (fun W (hW : Below w.heap.size w W) => tytable_any (h.on hW) hl1 hl2 hl3 (ht.on NodeR.lasts hW) htl htc htm)
 have HSo := kp (fun W (hW : Below w.heap.size w W) => sort_any (h.on hW) hl1 hl2 hl3 hM (Av := none) (vars := []) 0 (.inl rfl) (by simp) (hx.on hW) hfx)
 have HE0 := kp (show envOf [] = [] from rfl)
 rw [HE0.out] at HSo
 clear h hx ht hM hfx
 generalize hto : termO g t x most = ans at *
 clear hto
 go_enter Tryz.func13, Tryz.ntmps13
 go_upto_region 1 with fail
 generalize (((w.alloc (.cells #[.slice A1 g.sorts.length c1, .slice A2 g.funs.length c2, .slice A3 g.macros.length c3] 26)).alloc (.cells #[.slice At t.length ct] 38)).alloc (.cells #[.int .i8 x.kind, .string x.text, .slice A x.l.length c] 30)).alloc (.cells #[.slice none 0 0] 38) = w3 at *
 obtain ⟨s0, s1, s2, sf⟩ := Bk.c3 S3.out
 obtain ⟨t0, tf⟩ := Bk.c1 T3.out
 have HC := kp (HTb.out w3 B3.out)
 by_cases hck : tableE g t = 0
 ·have HCk := kp hck
  rw [hck] at HC
  replace HO := kp (HO.out.trans (if_neg (fun h => h hck)))
  clear hck
  go_wp2_with fail
  refine HC.out.mono ?_
  rintro e w4 ⟨rfl, hb4⟩
  have B4 := kp (B3.out.trans (hb4.mono B3.out.size))
  have S4 := kp (Bk.on S3.out hb4)
  have T4 := kp (Bk.on T3.out hb4)
  have X4 := kp (Bk.on X3.out hb4)
  have R4 := kp (Bk.on R3.out hb4)
  clear hb4 s0 s1 s2 sf t0 tf S3 T3 X3 R3 B3
  obtain ⟨s0, s1, s2, sf⟩ := Bk.c3 S4.out
  obtain ⟨q0, q1, q2, qf⟩ := Bk.c3 X4.out
  have HS := kp (HSo.out w4 B4.out)
  generalize sortO g [] x = so at *
  obtain ⟨sv, se⟩ := so
  by_cases hse : se = 0
  ·subst hse
   replace HO := kp (show ans = if (makeP g most x t).2.e ≠ 0 then ([], 0, (makeP g most x t).2.e) else ((makeP g most x t).2.t, (makeP g most x t).1.2, 0) by rw [HO.out, if_neg (by simp)])
   go_wp2_with fail
   refine HS.out.mono ?_
   rintro e w5 ⟨rfl, hb5⟩
   have B5 := kp (B4.out.trans (hb5.mono B4.out.size))
   have S5 := kp (Bk.on S4.out hb5)
   have T5 := kp (Bk.on T4.out hb5)
   have X5 := kp (Bk.on X4.out hb5)
   have R5 := kp (Bk.on R4.out hb5)
   clear hb5 s0 s1 s2 sf q0 q1 q2 qf S4 T4 X4 R4 B4
   obtain ⟨s0, s1, s2, sf⟩ := Bk.c3 S5.out
   obtain ⟨t0, tf⟩ := Bk.c1 T5.out
   have hrb := lt_of_block R5.out
   have X6 := kp (Bk.keep X5.out (.cells #[.slice A1 g.sorts.length c1, .slice A2 g.funs.length c2, .slice A3 g.macros.length c3, .slice At t.length ct, .int .i64 most, .bool true, .int .i64 (g.macros.length : Int), .int .i64 0, .int .i64 0] 67))
   have R6 := kp (Bk.keep R5.out (.cells #[.slice A1 g.sorts.length c1, .slice A2 g.funs.length c2, .slice A3 g.macros.length c3, .slice At t.length ct, .int .i64 most, .bool true, .int .i64 (g.macros.length : Int), .int .i64 0, .int .i64 0] 67))
   have B6 := kp (B5.out.alloc B5.out.size (.cells #[.slice A1 g.sorts.length c1, .slice A2 g.funs.length c2, .slice A3 g.macros.length c3, .slice At t.length ct, .int .i64 most, .bool true, .int .i64 (g.macros.length : Int), .int .i64 0, .int .i64 0] 67))
   obtain ⟨F, hFe⟩ : ∃ F : Fix, F = ⟨w, w5.heap.size, A1, c1, A2, c2, A3, c3, ⟨g, most, true⟩⟩ := ⟨_, rfl⟩
   have hcg : checkE g = 0 := Decidable.byContradiction fun h => by
    have hh : tableE g t = 2 := by unfold tableE; rw [if_pos (.inl h)]
    rw [HCk.out] at hh
    cases hh
   have hFk : FixOk F := by
    subst hFe
    exact ⟨HSg.out, hcg, B5.out.size, hm6, hmo⟩
   have hFm : F.mb = w5.heap.size := by rw [hFe]
   have HCl := kp (show Calls Tryz.prog 29 #[.pointer (some ⟨w5.heap.size, 0, none⟩), .agg #[.int .i8 x.kind, .string x.text, .slice A x.l.length c], .pointer none] (w5.alloc (.cells #[.slice A1 g.sorts.length c1, .slice A2 g.funs.length c2, .slice A3 g.macros.length c3, .slice At t.length ct, .int .i64 most, .bool true, .int .i64 (g.macros.length : Int), .int .i64 0, .int .i64 0] 67)) (MkPost F (g.macros.length : Nat) (w5.alloc (.cells #[.slice A1 g.sorts.length c1, .slice A2 g.funs.length c2, .slice A3 g.macros.length c3, .slice At t.length ct, .int .i64 most, .bool true, .int .i64 (g.macros.length : Int), .int .i64 0, .int .i64 0] 67)) t At (makeP g most x t).1 (makeP g most x t).2) by
    subst hFe
    have hm := Mk.made (F := ⟨w, w5.heap.size, A1, c1, A2, c2, A3, c3, ⟨g, most, true⟩⟩) (W := w5) (known := (g.macros.length : Int)) (t := t) (At := At) (ct := ct) rfl B5.out (HT.out.on NodeR.lasts B5.out) htc htm htl
    exact term_any hFk HMf.out _ g.macros.length x (Nat.lt_succ_self _) HFx.out hm HX.out (EnvS.nil _ _))
   have HFa := kp (show Far (w.heap.size + 3) t At from fun hn b o e => by have := lies_lt HT.out hn b o e; omega)
   generalize makeP g most x t = pr at *
   obtain ⟨pv, ps⟩ := pr
   clear hFe hcg
   go_upto_region 7 with fail
   generalize w5.alloc (.cells #[.slice A1 g.sorts.length c1, .slice A2 g.funs.length c2, .slice A3 g.macros.length c3, .slice At t.length ct, .int .i64 most, .bool true, .int .i64 (g.macros.length : Int), .int .i64 0, .int .i64 0] 67) = w6 at *
   generalize w5.heap.size = mb at *
   clear s0 s1 s2 sf t0 tf
   obtain ⟨q0, q1, q2, qf⟩ := Bk.c3 X6.out
   go_wp2_with fail
   refine HCl.out.mono ?_
   rintro e w7 ⟨rfl, hv, hk7, A7, c7, hm7, ht7⟩
   have B7 := kp (show Below w.heap.size w w7 from B6.out.trans (hk7.below (fun k hk => by unfold onMb at hk; have := B5.out.size; omega) B6.out.size))
   have hb7 := hm7.blk
   rw [hFm] at hb7
   have MB8 := kp (Bk.keep hb7 (.cells #[.int .i64 pv.1, .int .i64 pv.2] 69))
   have V8 := kp (Bk.new w7 (.cells #[.int .i64 pv.1, .int .i64 pv.2] 69))
   have R7 := kp ((hk7.block (w.heap.size + 3) (lt_of_block R6.out) (by unfold onMb; omega)).trans R6.out)
   have R8 := kp (Bk.keep R7.out (.cells #[.int .i64 pv.1, .int .i64 pv.2] 69))
   have B8 := kp (B7.out.alloc B7.out.size (.cells #[.int .i64 pv.1, .int .i64 pv.2] 69))
   have T8 := kp (hm7.table.on NodeR.lasts ((Below.refl w7.heap.size w7).alloc (Nat.le_refl _) (.cells #[.int .i64 pv.1, .int .i64 pv.2] 69)))
   have F8 := kp (Far.of_tn HFa.out ht7 (lt_of_block R6.out))
   have HQ := kp (And.intro hm7.le (And.intro hm7.lm hm7.len))
   have VP := kp hv
   have hvr : w.heap.size + 3 ≠ w7.heap.size := Nat.ne_of_lt (lt_of_block R7.out)
   have hmr : mb ≠ w.heap.size + 3 := by omega
   unfold valV
   clear hv hk7 hm7 ht7 hb7 q0 q1 q2 qf
   go_upto_region 8 with fail
   generalize w7.alloc (.cells #[.int .i64 pv.1, .int .i64 pv.2] 69) = w8 at *
   generalize w7.heap.size = vb at *
   obtain ⟨m0, m1, m2, m3, m4, m5, m6, m7, m8, mf⟩ := Bk.c9 MB8.out
   by_cases he : ps.e = 0
   ·have he1 : (ps.e != 0) = false := by simp [he]
    replace HO := kp (show ans = (ps.t, pv.2, 0) by rw [HO.out, if_neg (fun h => h he)])
    clear he
    go_upto_region 10 with fail
    clear m0 m1 m2 m3 m4 m5 m6 m7 m8 mf
    have C0 := kp (Below.refl w8.heap.size w8).drew
    have RD := kp (Bk.on R8.out C0.out)
    have BD := kp (B8.out.trans (C0.out.mono B8.out.size))
    have TD := kp (T8.out.on NodeR.lasts C0.out)
    have MD := kp (Bk.on MB8.out C0.out)
    have VD := kp (Bk.on V8.out C0.out)
    generalize hwd : w8.drew = wd at *
    have K9 := kp (Keeps.refl (fun k => k = w.heap.size + 3) wd)
    have HM9 := kp (fun W (hW : Keeps (fun k => k = w.heap.size + 3) wd W) => (hW.block mb (lt_of_block MD.out) hmr).trans MD.out)
    have HV9 := kp (fun W (hW : Keeps (fun k => k = w.heap.size + 3) wd W) => (hW.block vb (lt_of_block VD.out) (Ne.symm hvr)).trans VD.out)
    obtain ⟨r0, rf⟩ := Bk.c1 RD.out
    refine wp_region_held_drew (S := fun W => Keeps (fun k => k = w.heap.size + 3) wd W) (by kernel_rfl) ((by rw [hwd]; exact Keeps.refl _ _)) (fun hHeld => ?_)
    refine tk 0 (v := ?_) ?_ ?_
    rotate_left
    ·(intro w hSw; go_simp; try with_reducible rfl)
    try simp only [pt]
    refine tk 1 (v := ?_) ?_ ?_
    rotate_left
    ·(intro w hSw; go_simp; try with_reducible rfl)
    try simp only [pt]
    refine tk 2 (v := ?_) ?_ ?_
    rotate_left
    ·(intro w hSw; go_simp; try with_reducible rfl)
    try simp only [pt]
    refine tk 3 (v := ?_) ?_ ?_
    rotate_left
    ·(intro w hSw; (obtain ⟨m0, m1, m2, m3, m4, m5, m6, m7, m8, mf⟩ := Bk.c9 (HM9.out _ hSw); go_simp; try with_reducible rfl))
    try simp only [pt]
    refine tk 4 (v := ?_) ?_ ?_
    rotate_left
    ·(intro w hSw; go_simp; try with_reducible rfl)
    try simp only [pt]
    refine tk 5 (v := ?_) ?_ ?_
    rotate_left
    ·(intro w hSw; (obtain ⟨y0, y1, yf⟩ := Bk.c2 (HV9.out _ hSw); go_simp; try with_reducible rfl))
    try simp only [pt]
    rw [hwd]
    refine rd 6 fun K hK => ?_
    go_simp
    refine hK.out _ _ ((K9.out.setCell (p := ⟨w.heap.size + 3, 0, none⟩) (.inl rfl) _)) (fun hHeld => ?_)
    clear hK K
    try simp only [pt]
    refine tk 7 (v := ?_) ?_ ?_
    rotate_left
    ·(intro w hSw; go_simp; try with_reducible rfl)
    try simp only [pt]
    refine tk 8 (v := ?_) ?_ ?_
    rotate_left
    ·(intro w hSw; go_simp; try with_reducible rfl)
    try simp only [pt]
    refine wpAnyH_done (by kernel_rfl) ?_ _
    go_wp2_with fail
    rw [HO.out]
    refine makes_ret (o := (ps.t, pv.2, 0)) (A' := A7) (c' := c7) Tryz.results13 (Bk.set_at RD.out 0 _) ?_ ?_ ?_ ?_ (lies_other TD.out F8.out) HQ.out.1 HQ.out.2.1 HQ.out.2.2 VP.out.2 (BD.out.setCell (p := ⟨w.heap.size + 3, 0, none⟩) (by show w.heap.size ≤ w.heap.size + 3; omega) _) <;> rfl
   ·have he1 : (ps.e != 0) = true := by rw [bne_iff_ne]; exact he
    replace HO := kp (show ans = ([], 0, ps.e) by rw [HO.out, if_pos he])
    clear he
    go_upto_region 9 with fail
    clear m0 m1 m2 m3 m4 m5 m6 m7 m8 mf
    have C0 := kp (Below.refl w8.heap.size w8).drew
    have RD := kp (Bk.on R8.out C0.out)
    have BD := kp (B8.out.trans (C0.out.mono B8.out.size))
    have TD := kp (T8.out.on NodeR.lasts C0.out)
    have MD := kp (Bk.on MB8.out C0.out)
    have VD := kp (Bk.on V8.out C0.out)
    generalize hwd : w8.drew = wd at *
    have K9 := kp (Keeps.refl (fun k => k = w.heap.size + 3) wd)
    have HM9 := kp (fun W (hW : Keeps (fun k => k = w.heap.size + 3) wd W) => (hW.block mb (lt_of_block MD.out) hmr).trans MD.out)
    have HV9 := kp (fun W (hW : Keeps (fun k => k = w.heap.size + 3) wd W) => (hW.block vb (lt_of_block VD.out) (Ne.symm hvr)).trans VD.out)
    obtain ⟨r0, rf⟩ := Bk.c1 RD.out
    refine wp_region_held_drew (S := fun W => Keeps (fun k => k = w.heap.size + 3) wd W) (by kernel_rfl) ((by rw [hwd]; exact Keeps.refl _ _)) (fun hHeld => ?_)
    refine tk 0 (v := ?_) ?_ ?_
    rotate_left
    ·(intro w hSw; go_simp; try with_reducible rfl)
    try simp only [pt]
    refine tk 1 (v := ?_) ?_ ?_
    rotate_left
    ·(intro w hSw; go_simp; try with_reducible rfl)
    try simp only [pt]
    refine tk 2 (v := ?_) ?_ ?_
    rotate_left
    ·(intro w hSw; go_simp; try with_reducible rfl)
    try simp only [pt]
    refine tk 3 (v := ?_) ?_ ?_
    rotate_left
    ·(intro w hSw; go_simp; try with_reducible rfl)
    try simp only [pt]
    refine tk 4 (v := ?_) ?_ ?_
    rotate_left
    ·(intro w hSw; (obtain ⟨m0, m1, m2, m3, m4, m5, m6, m7, m8, mf⟩ := Bk.c9 (HM9.out _ hSw); go_simp; try with_reducible rfl))
    try simp only [pt]
    rw [hwd]
    refine rd 5 fun K hK => ?_
    go_simp
    refine hK.out _ _ ((K9.out.setCell (p := ⟨w.heap.size + 3, 0, none⟩) (.inl rfl) _)) (fun hHeld => ?_)
    clear hK K
    try simp only [pt]
    refine tk 6 (v := ?_) ?_ ?_
    rotate_left
    ·(intro w hSw; go_simp; try with_reducible rfl)
    try simp only [pt]
    refine tk 7 (v := ?_) ?_ ?_
    rotate_left
    ·(intro w hSw; go_simp; try with_reducible rfl)
    try simp only [pt]
    refine wpAnyH_done (by kernel_rfl) ?_ _
    go_wp2_with fail
    rw [HO.out]
    refine makes_ret (o := ([], 0, ps.e)) (A' := none) (c' := 0) Tryz.results13 (Bk.set_at RD.out 0 _) ?_ ?_ ?_ ?_ (.inl rfl) (Nat.le_refl _) (by unfold maxLen; omega) (by simp) v0_VI.1 (BD.out.setCell (p := ⟨w.heap.size + 3, 0, none⟩) (by show w.heap.size ≤ w.heap.size + 3; omega) _) <;> rfl
  ·have hse1 : (se != 0) = true := by rw [bne_iff_ne]; exact hse
   replace HO := kp (show ans = ([], 0, se) by rw [HO.out, if_pos hse])
   clear hse
   go_wp2_with fail
   refine HS.out.mono ?_
   rintro e w5 ⟨rfl, hb5⟩
   have B5 := kp (B4.out.trans (hb5.mono B4.out.size))
   have R5 := kp (Bk.on R4.out hb5)
   clear hb5 s0 s1 s2 sf q0 q1 q2 qf
   obtain ⟨r0, rf⟩ := Bk.c1 R5.out
   go_wp2_with fail
   rw [HO.out]
   refine makes_ret (o := ([], 0, se)) (A' := none) (c' := 0) Tryz.results13 (Bk.set_at R5.out 0 _) ?_ ?_ ?_ ?_ (.inl rfl) (Nat.le_refl _) (by unfold maxLen; omega) (by simp) v0_VI.1 (B5.out.setCell (p := ⟨w.heap.size + 3, 0, none⟩) (by show w.heap.size ≤ w.heap.size + 3; omega) _) <;> rfl
 ·have hck' : (tableE g t != 0) = true := by rw [bne_iff_ne]; exact hck
  replace HO := kp (show ans = ([], 0, 2) by rw [HO.out, if_pos hck])
  clear hck
  go_wp2_with fail
  refine HC.out.mono ?_
  rintro e w4 ⟨rfl, hb4⟩
  have B4 := kp (B3.out.trans (hb4.mono B3.out.size))
  have R4 := kp (Bk.on R3.out hb4)
  clear hb4 s0 s1 s2 sf t0 tf
  obtain ⟨r0, rf⟩ := Bk.c1 R4.out
  go_wp2_with fail
  rw [HO.out]
  refine makes_ret (o := ([], 0, 2)) (A' := none) (c' := 0) Tryz.results13 (Bk.set_at R4.out 0 _) ?_ ?_ ?_ ?_ (.inl rfl) (Nat.le_refl _) (by unfold maxLen; omega) (by simp) v0_VI.1 (B4.out.setCell (p := ⟨w.heap.size + 3, 0, none⟩) (by show w.heap.size ≤ w.heap.size + 3; omega) _) <;> rfl
end Go.Proofs.YtpmdcckapddchaaGreat.El
