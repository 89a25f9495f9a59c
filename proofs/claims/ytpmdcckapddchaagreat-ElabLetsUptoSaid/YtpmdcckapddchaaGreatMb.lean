import Derived.Test.YtpmdcckapddchaaGreatShort
import Derived.Test.YtpmdcckapddchaaGreatMa
import Derived.Test.YtpmdcckapddchaaGreatRows
import Derived.Deep.Cut
/- merged by wip/merge.py from: SexpRead SexpSize SexpOpen SigOpen Bulk SexpDepth SexpHead -/
/- Expressions' texts, and how they are read: what is written is read as it was. No program in sight. -/
namespace Go.Proofs.YtpmdcckapddchaaGreat.Dt
open Go.RowKit

def skipL : Bool → List UInt8 → List UInt8
 | _, [] => []
 | true, c :: r => if (c.toNat : Int) = 10 then skipL false r else skipL true r
 | false, c :: r => if Lx.whiteI c.toNat then skipL false r else if (c.toNat : Int) = 59 then skipL true r else c :: r
theorem skipL_suffix : ∀ (b : Bool) (l : List UInt8), skipL b l <:+ l
 | _, [] => by unfold skipL; exact List.suffix_refl _
 | true, c :: r => by
  unfold skipL
  split
  ·exact (skipL_suffix false r).trans (List.suffix_cons c r)
  ·exact (skipL_suffix true r).trans (List.suffix_cons c r)
 | false, c :: r => by
  unfold skipL
  split
  ·exact (skipL_suffix false r).trans (List.suffix_cons c r)
  ·split
   ·exact (skipL_suffix true r).trans (List.suffix_cons c r)
   ·exact List.suffix_refl _
def quotedL : List UInt8 → Option (List UInt8 × List UInt8)
 | [] => none
 | c :: r => if (c.toNat : Int) = 124 then some ([], r) else if Lx.insideI c.toNat then (quotedL r).map fun p => (c :: p.1, p.2) else none
theorem quotedL_split : ∀ {l : List UInt8} {n t : List UInt8}, quotedL l = some (n, t) → l = n ++ 124 :: t ∧ (n.all fun c => Lx.insideI c.toNat) = true
 | [], n, t, h => by simp [quotedL] at h
 | c :: r, n, t, h => by
  unfold quotedL at h
  split at h
  ·rename_i hc
   simp only [Option.some.injEq, Prod.mk.injEq] at h
   obtain ⟨rfl, rfl⟩ := h
   have : c = 124 := by apply UInt8.toNat_inj.1; show c.toNat = 124; omega
   subst this
   exact ⟨rfl, rfl⟩
  ·split at h
   ·rename_i hin
    cases hq : quotedL r with
    | none => rw [hq] at h; simp at h
    | some p =>
     rw [hq] at h
     simp only [Option.map_some, Option.some.injEq, Prod.mk.injEq] at h
     obtain ⟨rfl, rfl⟩ := h
     obtain ⟨h1, h2⟩ := quotedL_split (n := p.1) (t := p.2) hq
     exact ⟨by rw [List.cons_append, ← h1], by rw [List.all_cons, hin, h2]; rfl⟩
   ·cases h
def sgn (c : UInt8) : Bool := Lx.signI c.toNat
inductive Tk where
 | none
 | bad
 | tok (k : Int) (t r : List UInt8)
def nextL : List UInt8 → Tk
 | [] => .none
 | c :: r =>
  if (c.toNat : Int) = 40 then .tok 0 [] r
  else if (c.toNat : Int) = 41 then .tok 1 [] r
  else if (c.toNat : Int) = 124 then match quotedL r with
   | some p => if p.1.length ≤ 100 then .tok 2 p.1 p.2 else .bad
   | .none => .bad
  else if (c.toNat : Int) = 58 then (if (r.takeWhile sgn).length = 0 ∨ 100 < (r.takeWhile sgn).length then .bad else .tok 4 (r.takeWhile sgn) (r.dropWhile sgn))
  else if ((c :: r).takeWhile sgn).length = 0 ∨ 100 < ((c :: r).takeWhile sgn).length then .bad
  else if Lx.digitI c.toNat then (if isNum ((c :: r).takeWhile sgn) then .tok 3 ((c :: r).takeWhile sgn) ((c :: r).dropWhile sgn) else .bad)
  else .tok 2 ((c :: r).takeWhile sgn) ((c :: r).dropWhile sgn)
theorem nextL_cons (c : UInt8) (r : List UInt8) : nextL (c :: r) =
  if (c.toNat : Int) = 40 then .tok 0 [] r
  else if (c.toNat : Int) = 41 then .tok 1 [] r
  else if (c.toNat : Int) = 124 then match quotedL r with
   | some p => if p.1.length ≤ 100 then .tok 2 p.1 p.2 else .bad
   | .none => .bad
  else if (c.toNat : Int) = 58 then (if (r.takeWhile sgn).length = 0 ∨ 100 < (r.takeWhile sgn).length then .bad else .tok 4 (r.takeWhile sgn) (r.dropWhile sgn))
  else if ((c :: r).takeWhile sgn).length = 0 ∨ 100 < ((c :: r).takeWhile sgn).length then .bad
  else if Lx.digitI c.toNat then (if isNum ((c :: r).takeWhile sgn) then .tok 3 ((c :: r).takeWhile sgn) ((c :: r).dropWhile sgn) else .bad)
  else .tok 2 ((c :: r).takeWhile sgn) ((c :: r).dropWhile sgn) := rfl
inductive Rd : List UInt8 → Sexp → List UInt8 → Prop
 | name {l t r : List UInt8} {s : ByteArray} (h : nextL (skipL false l) = .tok 2 t r) (hs : Lx.bs s = t) : Rd l (.mk 0 s []) r
 | num {l t r : List UInt8} {s : ByteArray} (h : nextL (skipL false l) = .tok 3 t r) (hs : Lx.bs s = t) : Rd l (.mk 1 s []) r
 | key {l t r : List UInt8} {s : ByteArray} (h : nextL (skipL false l) = .tok 4 t r) (hs : Lx.bs s = t) : Rd l (.mk 2 s []) r
 | list {l r rest : List UInt8} {xs : List Sexp} (f : Nat → List UInt8) (h : nextL (skipL false l) = .tok 0 [] r) (h0 : f 0 = r)
   (hc : ∀ i, i < xs.length → ∀ t q, nextL (skipL false (f i)) ≠ .tok 1 t q) (hx : ∀ i x, xs[i]? = some x → Rd (f i) x (f (i + 1))) (hn : nextL (skipL false (f xs.length)) = .tok 1 [] rest) : Rd l (.mk 3 { data := #[] } xs) rest
theorem Rd.skip {l m r : List UInt8} {x : Sexp} (h : Rd l x r) (e : skipL false l = skipL false m) : Rd m x r := by
 cases h with
 | name h hs => exact .name (e ▸ h) hs
 | num h hs => exact .num (e ▸ h) hs
 | key h hs => exact .key (e ▸ h) hs
 | list f h h0 hc hx hn => exact .list f (e ▸ h) h0 hc hx hn

def HeadOk (l : List UInt8) : Prop := ∃ c r, l = c :: r ∧ Lx.whiteI c.toNat = false ∧ (c.toNat : Int) ≠ 59 ∧ (c.toNat : Int) ≠ 41
theorem HeadOk.append {l m : List UInt8} (h : HeadOk l) : HeadOk (l ++ m) := by
 obtain ⟨c, r, rfl, h⟩ := h
 exact ⟨c, r ++ m, rfl, h⟩
theorem HeadOk.skip {l : List UInt8} (h : HeadOk l) : skipL false l = l := by
 obtain ⟨c, r, rfl, h1, h2, _⟩ := h
 rw [skipL, if_neg (by rw [h1]; simp), if_neg h2]
theorem nextL_suffix {l : List UInt8} {k : Int} {t r : List UInt8} (h : nextL l = .tok k t r) : r <:+ l ∧ r.length < l.length := by
 cases l with
 | nil => unfold nextL at h; cases h
 | cons c l =>
  have hd : ∀ m : List UInt8, m.dropWhile sgn <:+ m := fun m => List.dropWhile_suffix _
  rw [nextL_cons] at h
  split at h
  ·simp only [Tk.tok.injEq] at h
   obtain ⟨_, _, rfl⟩ := h
   exact ⟨List.suffix_cons c l, by simp⟩
  ·split at h
   ·simp only [Tk.tok.injEq] at h
    obtain ⟨_, _, rfl⟩ := h
    exact ⟨List.suffix_cons c l, by simp⟩
   ·split at h
    ·split at h
     ·rename_i p hq
      split at h
      ·simp only [Tk.tok.injEq] at h
       obtain ⟨_, rfl, rfl⟩ := h
       obtain ⟨e, _⟩ := quotedL_split (n := p.1) (t := p.2) hq
       rw [e]
       exact ⟨⟨c :: p.1 ++ [124], by simp⟩, by simp; omega⟩
      ·cases h
     ·cases h
    ·split at h
     ·split at h
      ·cases h
      ·simp only [Tk.tok.injEq] at h
       obtain ⟨_, _, rfl⟩ := h
       have := (hd l)
       exact ⟨this.trans (List.suffix_cons c l), by have := this.length_le; simp; omega⟩
     ·split at h
      ·cases h
      ·rename_i hn
       have hs := hd (c :: l)
       have hlen : ((c :: l).dropWhile sgn).length < (c :: l).length := by
        have e := congrArg List.length (List.takeWhile_append_dropWhile (p := sgn) (l := c :: l))
        rw [List.length_append] at e
        omega
       split at h
       ·split at h
        ·simp only [Tk.tok.injEq] at h
         obtain ⟨_, _, rfl⟩ := h
         exact ⟨hs, hlen⟩
        ·cases h
       ·simp only [Tk.tok.injEq] at h
        obtain ⟨_, _, rfl⟩ := h
        exact ⟨hs, hlen⟩
theorem next_skip_suffix {l : List UInt8} {k : Int} {t r : List UInt8} (h : nextL (skipL false l) = .tok k t r) : r <:+ l :=
 (nextL_suffix h).1.trans (skipL_suffix false l)
theorem Rd.suffix {l r : List UInt8} {x : Sexp} (h : Rd l x r) : r <:+ l := by
 induction h with
 | name h hs => exact next_skip_suffix h
 | num h hs => exact next_skip_suffix h
 | key h hs => exact next_skip_suffix h
 | @list l r rest xs f h h0 hc hx hn ih =>
  have hstep : ∀ k, k ≤ xs.length → f k <:+ r := by
   intro k
   induction k with
   | zero => intro _; rw [h0]; exact List.suffix_refl _
   | succ k ihk => intro hk; exact (ih k xs[k] (List.getElem?_eq_getElem (by omega))).trans (ihk (by omega))
  exact (next_skip_suffix hn).trans ((hstep _ (Nat.le_refl _)).trans (next_skip_suffix h))
theorem suffix_drop {l s : List UInt8} (h : l <:+ s) : s.drop (s.length - l.length) = l := by
 obtain ⟨p, rfl⟩ := h
 rw [List.length_append, Nat.add_sub_cancel, List.drop_left]
theorem Rd.once {l r : List UInt8} {x : Sexp} (h : Rd l x r) : ∀ {y : Sexp} {q : List UInt8}, Rd l y q → x = y ∧ r = q := by
 induction h with
 | name h hs => 
  intro y q h2
  cases h2 with
  | name h' hs' => rw [h] at h'; simp only [Tk.tok.injEq, true_and] at h'; obtain ⟨rfl, rfl⟩ := h'; exact ⟨by rw [Lx.bs_inj.1 (hs.trans hs'.symm)], rfl⟩
  | num h' hs' => rw [h] at h'; simp at h'
  | key h' hs' => rw [h] at h'; simp at h'
  | list f h' h0 hc hx hn => rw [h] at h'; simp at h'
 | num h hs => 
  intro y q h2
  cases h2 with
  | num h' hs' => rw [h] at h'; simp only [Tk.tok.injEq, true_and] at h'; obtain ⟨rfl, rfl⟩ := h'; exact ⟨by rw [Lx.bs_inj.1 (hs.trans hs'.symm)], rfl⟩
  | name h' hs' => rw [h] at h'; simp at h'
  | key h' hs' => rw [h] at h'; simp at h'
  | list f h' h0 hc hx hn => rw [h] at h'; simp at h'
 | key h hs => 
  intro y q h2
  cases h2 with
  | key h' hs' => rw [h] at h'; simp only [Tk.tok.injEq, true_and] at h'; obtain ⟨rfl, rfl⟩ := h'; exact ⟨by rw [Lx.bs_inj.1 (hs.trans hs'.symm)], rfl⟩
  | name h' hs' => rw [h] at h'; simp at h'
  | num h' hs' => rw [h] at h'; simp at h'
  | list f h' h0 hc hx hn => rw [h] at h'; simp at h'
 | @list l r rest xs f h h0 hc hx hn ih =>
  intro y q h2
  cases h2 with
  | key h' hs' => rw [h] at h'; simp at h'
  | name h' hs' => rw [h] at h'; simp at h'
  | num h' hs' => rw [h] at h'; simp at h'
  | @list _ r' _ ys f' h' h0' hc' hx' hn' =>
   rw [h] at h'
   simp only [Tk.tok.injEq, true_and] at h'
   subst h'
   have hf : ∀ k, k ≤ xs.length → k ≤ ys.length → f k = f' k ∧ xs.take k = ys.take k := by
    intro k
    induction k with
    | zero => intro _ _; rw [h0, h0']; exact ⟨rfl, rfl⟩
    | succ k ihk =>
     intro h1 h2
     obtain ⟨e1, e2⟩ := ihk (by omega) (by omega)
     have a := List.getElem?_eq_getElem (show k < ys.length by omega)
     have b := List.getElem?_eq_getElem (show k < xs.length by omega)
     have hr := hx' k _ a
     rw [← e1] at hr
     obtain ⟨p1, p2⟩ := ih k _ b hr
     exact ⟨p2, by rw [List.take_succ_eq_append_getElem (by omega), List.take_succ_eq_append_getElem (by omega), e2, p1]⟩
   have hl : xs.length = ys.length := by
    rcases Nat.lt_trichotomy xs.length ys.length with g | g | g
    ·exact absurd ((hf _ (Nat.le_refl _) (by omega)).1 ▸ hn) (hc' _ g _ _)
    ·exact g
    ·exact absurd ((hf _ (by omega) (Nat.le_refl _)).1 ▸ hn') (hc _ g _ _)
   obtain ⟨e1, e2⟩ := hf xs.length (Nat.le_refl _) (by omega)
   rw [hl] at e2
   rw [← hl, List.take_length, hl, List.take_length] at e2
   rw [e1, hl] at hn
   rw [hn] at hn'
   simp only [Tk.tok.injEq, true_and] at hn'
   exact ⟨by rw [e2], hn'⟩
end Go.Proofs.YtpmdcckapddchaaGreat.Dt
/- How great an expression is, in plain words. No program in sight. -/
namespace Go.Proofs.YtpmdcckapddchaaGreat.Dt
open Go.RowKit

mutual
def Sexp.full : Sexp → Nat
 | .mk _ t l => 1 + t.size + Sexp.fullL l
def Sexp.fullL : List Sexp → Nat
 | [] => 0
 | x :: r => Sexp.full x + Sexp.fullL r
end
theorem Sexp.full_eq (x : Sexp) : x.full = 1 + x.text.size + Sexp.fullL x.l := by cases x; rw [Sexp.full]; rfl
theorem Sexp.fullL_cons (x : Sexp) (r : List Sexp) : Sexp.fullL (x :: r) = x.full + Sexp.fullL r := by rw [Sexp.fullL]
theorem Sexp.fullL_nil : Sexp.fullL [] = 0 := by rw [Sexp.fullL]
theorem Sexp.fullL_append : ∀ (l m : List Sexp), Sexp.fullL (l ++ m) = Sexp.fullL l + Sexp.fullL m
 | [], m => by rw [List.nil_append, Sexp.fullL_nil, Nat.zero_add]
 | x :: r, m => by rw [List.cons_append, Sexp.fullL_cons, Sexp.fullL_cons, Sexp.fullL_append r m]; omega
theorem Sexp.fullL_take {l : List Sexp} {k : Nat} {y : Sexp} (h : l[k]? = some y) : Sexp.fullL (l.take (k + 1)) = Sexp.fullL (l.take k) + y.full := by
 rw [List.take_add_one, h]
 show Sexp.fullL (l.take k ++ [y]) = _
 rw [Sexp.fullL_append, Sexp.fullL_cons, Sexp.fullL_nil, Nat.add_zero]
end Go.Proofs.YtpmdcckapddchaaGreat.Dt
/- Arguments that are expressions, signatures, worlds: whoever is read so reads as such. No condition. -/
namespace Go.Proofs.YtpmdcckapddchaaGreat.Dt
open Go.RowKit Go.ChangeShapes Go.WideShapes Go.Deep

theorem cI : Tryz.prog.cellsOf 3 = 1 := by kernel_rfl
theorem cI8 : Tryz.prog.cellsOf 27 = 1 := by kernel_rfl
theorem cS : Tryz.prog.cellsOf 9 = 1 := by kernel_rfl
theorem cSx : Tryz.prog.cellsOf 30 = 3 := by kernel_rfl
theorem cLSx : Tryz.prog.cellsOf 28 = 1 := by kernel_rfl
theorem bSx : Tryz.prog.bytesOf 30 = 48 := by kernel_rfl
theorem fSx : ∃ f0 f1 f2 : Field, Tryz.prog.underlying 30 = some (.struct #[f0, f1, f2]) ∧ f0.offset = 0 ∧ f1.offset = 1 ∧ f2.offset = 2 ∧ f0.type = 27 ∧ f1.type = 9 ∧ f2.type = 28 :=
 ⟨_, _, _, Tryz.underlying30, rfl, rfl, rfl, rfl, rfl, rfl⟩
theorem list3 {α : Type} {l : List α} (h : l.length = 3) : ∃ a b c, l = [a, b, c] := by
 match l, h with
 | [a, b, c], _ => exact ⟨a, b, c, rfl⟩
theorem list2 {α : Type} {l : List α} (h : l.length = 2) : ∃ a b, l = [a, b] := by
 match l, h with
 | [a, b], _ => exact ⟨a, b, rfl⟩
theorem list4 {α : Type} {l : List α} (h : l.length = 4) : ∃ a b c d, l = [a, b, c, d] := by
 match l, h with
 | [a, b, c, d], _ => exact ⟨a, b, c, d, rfl⟩
theorem list6 {α : Type} {l : List α} (h : l.length = 6) : ∃ a b c d e f, l = [a, b, c, d, e, f] := by
 match l, h with
 | [a, b, c, d, e, f], _ => exact ⟨a, b, c, d, e, f, rfl⟩

section
variable {H : Type} {enc : TypeId × Value → H}
theorem opens_sexp (fuel : Nat) : Opens H enc Tryz.prog 30 SexpR fuel := by
 induction fuel using Nat.strongRecOn with
 | _ fuel ih =>
  intro W cs y h hf
  obtain ⟨f0, f1, f2, hu, o0, o1, o2, t0, t1, t2⟩ := fSx
  have hlen := struct_len hu h
  rw [cSx] at hlen
  obtain ⟨a, b, c, rfl⟩ := list3 hlen
  obtain ⟨k, hk⟩ := field_of hu h hf 0 f0 rfl (fun fu _ => by rw [t0]; exact opens_int Tryz.underlying27 fu)
  rw [o0, t0, cI8] at hk
  obtain ⟨hk1, hk2⟩ := hk
  obtain ⟨t, ht⟩ := field_of hu h hf 1 f1 rfl (fun fu _ => by rw [t1]; exact opens_str Tryz.underlying9 fu)
  rw [o1, t1, cS] at ht
  obtain ⟨ht1, ht2⟩ := ht
  obtain ⟨l, hl⟩ := field_of hu h hf 2 f2 rfl (fun fu hfu => by rw [t2]; exact opens_slice Tryz.underlying28 cSx bSx (by omega) (fun fu' hfu' => ih fu' (by omega)))
  rw [o2, t2, cLSx] at hl
  obtain ⟨A, cap, hl1, hl2, hl3, hl4, hl5⟩ := hl
  simp at hk1 ht1 hl1
  subst hk1 ht1 hl1
  exact ⟨.mk k t l, SexpR.make hl2 hl3 hl4 ht2 hl5 hk2⟩
end
end Go.Proofs.YtpmdcckapddchaaGreat.Dt
/- Arguments that are signatures: whoever is read so reads as such. No condition. -/
namespace Go.Proofs.YtpmdcckapddchaaGreat.Dt
open Go.RowKit Go.ChangeShapes Go.WideShapes Go.Deep
section
variable {H : Type} {enc : TypeId × Value → H}
theorem cFun : Tryz.prog.cellsOf 104 = 6 := by kernel_rfl
theorem cA3 : Tryz.prog.cellsOf 53 = 3 := by kernel_rfl
theorem fFun : ∃ f0 f1 f2 f3 : Field, Tryz.prog.underlying 104 = some (.struct #[f0, f1, f2, f3]) ∧ f0.offset = 0 ∧ f1.offset = 1 ∧ f2.offset = 2 ∧ f3.offset = 5 ∧ f0.type = 9 ∧ f1.type = 3 ∧ f2.type = 53 ∧ f3.type = 3 :=
 ⟨_, _, _, _, Tryz.underlying104, rfl, rfl, rfl, rfl, rfl, rfl, rfl, rfl⟩
def A3R (_ : World) (vs : List Value) (x : Int × Int × Int) : Prop := vs = [.int .i64 x.1, .int .i64 x.2.1, .int .i64 x.2.2] ∧ I64 x.1 ∧ I64 x.2.1 ∧ I64 x.2.2
theorem opens_a3 (fuel : Nat) : Opens H enc Tryz.prog 53 A3R fuel := by
 intro W cs y h hf
 have hlen := (DataW.trod_array Tryz.underlying53 h).choose_spec.choose_spec.2.2.1
 rw [cA3] at hlen
 obtain ⟨a, b, c, rfl⟩ := list3 hlen
 obtain ⟨x, hx⟩ := array_of Tryz.underlying53 h hf 1 cI 0 (by omega) (fun fu _ => opens_int Tryz.underlying3 fu)
 obtain ⟨y, hy⟩ := array_of Tryz.underlying53 h hf 1 cI 1 (by omega) (fun fu _ => opens_int Tryz.underlying3 fu)
 obtain ⟨z, hz⟩ := array_of Tryz.underlying53 h hf 1 cI 2 (by omega) (fun fu _ => opens_int Tryz.underlying3 fu)
 obtain ⟨hx1, hx2⟩ := hx.i64
 obtain ⟨hy1, hy2⟩ := hy.i64
 obtain ⟨hz1, hz2⟩ := hz.i64
 simp at hx1 hy1 hz1
 subst hx1 hy1 hz1
 exact ⟨⟨x, y, z⟩, rfl, hx2, hy2, hz2⟩
theorem opens_fun (fuel : Nat) : Opens H enc Tryz.prog 104 FunR fuel := by
 intro W cs y h hf
 obtain ⟨f0, f1, f2, f3, hu, o0, o1, o2, o3, t0, t1, t2, t3⟩ := fFun
 have hlen := struct_len hu h
 rw [cFun] at hlen
 obtain ⟨a, b, c, d, e, f, rfl⟩ := list6 hlen
 obtain ⟨n, hn⟩ := field_of hu h hf 0 f0 rfl (fun fu _ => by rw [t0]; exact opens_str Tryz.underlying9 fu)
 rw [o0, t0, cS] at hn
 obtain ⟨k, hk⟩ := field_of hu h hf 1 f1 rfl (fun fu _ => by rw [t1]; exact opens_int Tryz.underlying3 fu)
 rw [o1, t1, cI] at hk
 obtain ⟨⟨x0, x1, x2⟩, hx⟩ := field_of hu h hf 2 f2 rfl (fun fu _ => by rw [t2]; exact opens_a3 fu)
 rw [o2, t2, cA3] at hx
 obtain ⟨r, hr⟩ := field_of hu h hf 3 f3 rfl (fun fu _ => by rw [t3]; exact opens_int Tryz.underlying3 fu)
 rw [o3, t3, cI] at hr
 obtain ⟨hn1, hn2⟩ := hn
 obtain ⟨hk1, hk2⟩ := hk.i64
 obtain ⟨hx1, hx2, hx3, hx4⟩ := hx
 obtain ⟨hr1, hr2⟩ := hr.i64
 simp at hn1 hk1 hx1 hr1
 obtain ⟨hxa, hxb, hxc⟩ := hx1
 subst hn1 hk1 hxa hxb hxc hr1
 exact ⟨⟨n, k, x0, x1, x2, r⟩, rfl, hn2, hk2, hx2, hx3, hx4, hr2⟩
theorem cParam : Tryz.prog.cellsOf 59 = 2 := by kernel_rfl
theorem bParam : Tryz.prog.bytesOf 59 = 24 := by kernel_rfl
theorem fParam : ∃ f0 f1 : Field, Tryz.prog.underlying 59 = some (.struct #[f0, f1]) ∧ f0.offset = 0 ∧ f1.offset = 1 ∧ f0.type = 9 ∧ f1.type = 3 := ⟨_, _, Tryz.underlying59, rfl, rfl, rfl, rfl⟩
theorem opens_param (fuel : Nat) : Opens H enc Tryz.prog 59 ParamR fuel := by
 intro W cs y h hf
 obtain ⟨f0, f1, hu, o0, o1, t0, t1⟩ := fParam
 have hlen := struct_len hu h
 rw [cParam] at hlen
 obtain ⟨a, b, rfl⟩ := list2 hlen
 obtain ⟨n, hn⟩ := field_of hu h hf 0 f0 rfl (fun fu _ => by rw [t0]; exact opens_str Tryz.underlying9 fu)
 rw [o0, t0, cS] at hn
 obtain ⟨k, hk⟩ := field_of hu h hf 1 f1 rfl (fun fu _ => by rw [t1]; exact opens_int Tryz.underlying3 fu)
 rw [o1, t1, cI] at hk
 obtain ⟨hn1, hn2⟩ := hn
 obtain ⟨hk1, hk2⟩ := hk.i64
 simp at hn1 hk1
 subst hn1 hk1
 exact ⟨⟨n, k⟩, rfl, hn2, hk2⟩
theorem cMacro : Tryz.prog.cellsOf 47 = 6 := by kernel_rfl
theorem bMacro : Tryz.prog.bytesOf 47 = 96 := by kernel_rfl
theorem bFun : Tryz.prog.bytesOf 104 = 56 := by kernel_rfl
theorem bS : Tryz.prog.bytesOf 9 = 16 := by kernel_rfl
theorem cLParam : Tryz.prog.cellsOf 45 = 1 := by kernel_rfl
theorem cLS : Tryz.prog.cellsOf 22 = 1 := by kernel_rfl
theorem cLFun : Tryz.prog.cellsOf 23 = 1 := by kernel_rfl
theorem cLMacro : Tryz.prog.cellsOf 24 = 1 := by kernel_rfl
theorem cSig : Tryz.prog.cellsOf 26 = 3 := by kernel_rfl
theorem fMacro : ∃ f0 f1 f2 f3 : Field, Tryz.prog.underlying 47 = some (.struct #[f0, f1, f2, f3]) ∧ f0.offset = 0 ∧ f1.offset = 1 ∧ f2.offset = 2 ∧ f3.offset = 3 ∧ f0.type = 9 ∧ f1.type = 45 ∧ f2.type = 3 ∧ f3.type = 30 :=
 ⟨_, _, _, _, Tryz.underlying47, rfl, rfl, rfl, rfl, rfl, rfl, rfl, rfl⟩
theorem fSig : ∃ f0 f1 f2 : Field, Tryz.prog.underlying 26 = some (.struct #[f0, f1, f2]) ∧ f0.offset = 0 ∧ f1.offset = 1 ∧ f2.offset = 2 ∧ f0.type = 22 ∧ f1.type = 23 ∧ f2.type = 24 :=
 ⟨_, _, _, Tryz.underlying26, rfl, rfl, rfl, rfl, rfl, rfl⟩
theorem opens_macro (fuel : Nat) : Opens H enc Tryz.prog 47 MacroR fuel := by
 intro W cs y h hf
 obtain ⟨f0, f1, f2, f3, hu, o0, o1, o2, o3, t0, t1, t2, t3⟩ := fMacro
 have hlen := struct_len hu h
 rw [cMacro] at hlen
 obtain ⟨a, b, c, d, e, f, rfl⟩ := list6 hlen
 obtain ⟨n, hn⟩ := field_of hu h hf 0 f0 rfl (fun fu _ => by rw [t0]; exact opens_str Tryz.underlying9 fu)
 rw [o0, t0, cS] at hn
 obtain ⟨ps, hp⟩ := field_of hu h hf 1 f1 rfl (fun fu hfu => by rw [t1]; exact opens_slice Tryz.underlying45 cParam bParam (by omega) (fun fu' _ => opens_param fu'))
 rw [o1, t1, cLParam] at hp
 obtain ⟨r, hr⟩ := field_of hu h hf 2 f2 rfl (fun fu _ => by rw [t2]; exact opens_int Tryz.underlying3 fu)
 rw [o2, t2, cI] at hr
 obtain ⟨x, hx⟩ := field_of hu h hf 3 f3 rfl (fun fu _ => by rw [t3]; exact opens_sexp fu)
 rw [o3, t3, cSx] at hx
 obtain ⟨hn1, hn2⟩ := hn
 obtain ⟨A, cap, hp1, hp2, hp3, hp4, hp5⟩ := hp
 obtain ⟨hr1, hr2⟩ := hr.i64
 simp at hn1 hp1 hr1
 subst hn1 hp1 hr1
 exact ⟨⟨n, ps, r, x⟩, A, cap, [d, e, f], rfl, hx, hp2, hp3, hp4, hn2, hr2⟩
theorem opens_sig (fuel : Nat) : Opens H enc Tryz.prog 26 SigR fuel := by
 intro W cs y h hf
 obtain ⟨f0, f1, f2, hu, o0, o1, o2, t0, t1, t2⟩ := fSig
 have hlen := struct_len hu h
 rw [cSig] at hlen
 obtain ⟨a, b, c, rfl⟩ := list3 hlen
 obtain ⟨s, hs⟩ := field_of hu h hf 0 f0 rfl (fun fu hfu => by rw [t0]; exact opens_slice Tryz.underlying22 cS bS (by omega) (fun fu' _ => opens_str Tryz.underlying9 fu'))
 rw [o0, t0, cLS] at hs
 obtain ⟨fs, hfs⟩ := field_of hu h hf 1 f1 rfl (fun fu hfu => by rw [t1]; exact opens_slice Tryz.underlying23 cFun bFun (by omega) (fun fu' _ => opens_fun fu'))
 rw [o1, t1, cLFun] at hfs
 obtain ⟨ms, hms⟩ := field_of hu h hf 2 f2 rfl (fun fu hfu => by rw [t2]; exact opens_slice Tryz.underlying24 cMacro bMacro (by omega) (fun fu' _ => opens_macro fu'))
 rw [o2, t2, cLMacro] at hms
 obtain ⟨A1, c1, a1, a2, a3, a4, a5⟩ := hs
 obtain ⟨A2, c2, b1, b2, b3, b4, b5⟩ := hfs
 obtain ⟨A3, c3, d1, d2, d3, d4, d5⟩ := hms
 simp at a1 b1 d1
 subst a1 b1 d1
 exact ⟨⟨s, fs, ms⟩, A1, c1, A2, c2, A3, c3, rfl, ⟨a2, b2, d2, a3, b3, d3, a4, b4, d4⟩⟩
set_option maxRecDepth 100000 in
theorem open_sig {W : World} {base : Nat} {v : Value} {d : DataW H} {ps : List MemPlace} (hval : Value.okWide Tryz.prog W .any base 26 v) (h : DataW.Trod enc Tryz.prog W 0 (fun _ => true) true 26 v d ps) (hf : Fits Tryz.prog 26 d) :
  ∃ g A1 c1 A2 c2 A3 c3, v = .agg #[.slice A1 g.sorts.length c1, .slice A2 g.funs.length c2, .slice A3 g.macros.length c3] ∧ SigAt W A1 c1 A2 c2 A3 c3 g := by
 obtain ⟨f0, f1, f2, hu, _⟩ := fSig
 obtain ⟨cs, rfl, hsz⟩ := okWide_struct hu hval
 obtain ⟨fuel, ht⟩ := h
 obtain ⟨g, A1, c1, A2, c2, A3, c3, e, hg⟩ := opens_sig fuel W _ _ ht hf
 refine ⟨g, A1, c1, A2, c2, A3, c3, ?_, hg⟩
 have e2 : cs.toList = _ := e
 congr 1
 exact Array.toList_inj.1 e2
end
end Go.Proofs.YtpmdcckapddchaaGreat.Dt
/- What is read weighs no more than its reading's bulk. -/
namespace Go.Proofs.YtpmdcckapddchaaGreat.Dt
open Go.RowKit Go.ChangeShapes Go.WideShapes Go.Deep
section
variable {H : Type} {enc : TypeId × Value → H}
def sumOf {α : Type} (sz : α → Nat) : List α → Nat
 | [] => 0
 | x :: r => sz x + sumOf sz r
theorem sumOf_mem {α : Type} {sz : α → Nat} : ∀ {l : List α} {x : α}, x ∈ l → sz x ≤ sumOf sz l
 | [], _, h => by cases h
 | y :: r, x, h => by
  unfold sumOf
  rcases List.mem_cons.1 h with h | h
  ·subst h; omega
  ·have := sumOf_mem (sz := sz) h; omega
theorem bulk_agg (l : List (DataW H)) : Rows.uptoBulk (.agg l) = Rows.uptoBulkAll l + 1 := by simp [Rows.uptoBulk]
theorem bulk_cons (d : DataW H) (l : List (DataW H)) : Rows.uptoBulkAll (d :: l) = Rows.uptoBulk d + Rows.uptoBulkAll l := by simp [Rows.uptoBulkAll]
theorem bulk_nil : Rows.uptoBulkAll ([] : List (DataW H)) = 0 := by simp [Rows.uptoBulkAll]
theorem bulk_slice (l m : List (DataW H)) : Rows.uptoBulk (.slice l m) = Rows.uptoBulkAll l + Rows.uptoBulkAll m + 1 := by simp [Rows.uptoBulk]
theorem bulk_sum {α : Type} {sz : α → Nat} : ∀ {xs : List α} {ds : List (DataW H)}, xs.length = ds.length → (∀ (i : Nat) x d, xs[i]? = some x → ds[i]? = some d → sz x ≤ Rows.uptoBulk d) → sumOf sz xs ≤ Rows.uptoBulkAll ds
 | [], [], _, _ => by unfold sumOf; exact Nat.zero_le _
 | x :: xs, d :: ds, hl, h => by
  rw [bulk_cons]
  unfold sumOf
  have h1 := h 0 x d rfl rfl
  have h2 := bulk_sum (xs := xs) (ds := ds) (by simpa using hl) (fun i y e hy he => h (i + 1) y e (by simpa using hy) (by simpa using he))
  omega
 | [], d :: ds, hl, _ => by simp at hl
 | x :: xs, [], hl, _ => by simp at hl
theorem bulk_append (l m : List (DataW H)) : Rows.uptoBulkAll (l ++ m) = Rows.uptoBulkAll l + Rows.uptoBulkAll m := by
 induction l with
 | nil => rw [List.nil_append, bulk_nil, Nat.zero_add]
 | cons d l ih => rw [List.cons_append, bulk_cons, bulk_cons, ih]; omega
theorem bulk_le {ds gs : List (DataW H)} (hk : Rows.uptoSmall H (ds ++ gs) = true) : Rows.uptoBulkAll ds ≤ 1048576 := by
 have h : Rows.uptoBulkAll (ds ++ gs) ≤ 1048576 := of_decide_eq_true hk
 rw [bulk_append] at h
 omega
def Weighs {α : Type} (H : Type) (enc : TypeId × Value → H) (t : TypeId) (R : World → List Value → α → Prop) (sz : α → Nat) (fuel : Nat) : Prop :=
 ∀ (W : World) (cs : List Value) (y : DataW H × List MemPlace) (x : α), DataW.trod enc Tryz.prog W 0 (fun _ => true) true fuel t cs = some y → R W cs x → sz x ≤ Rows.uptoBulk y.1
def RowR' {α : Type} (n : Nat) (R : World → List Value → α → Prop) (W : World) (cs : List Value) (xs : List α) : Prop := ∃ A cap, cs = [.slice A xs.length cap] ∧ Lies n R W A xs
theorem weighs_str (fuel : Nat) : Weighs H enc 9 StrR (fun s => s.size + 1) fuel := by
 intro W cs y x h hx
 obtain ⟨s, h1, h2, _⟩ := DataW.trod_string Tryz.underlying9 h
 rw [hx.1] at h1
 simp only [List.cons.injEq, and_true, Value.string.injEq] at h1
 subst h1
 rw [h2]
 simp [Rows.uptoBulk]
theorem weighs_slice {α : Type} {R : World → List Value → α → Prop} {sz : α → Nat} {t e : TypeId} {n fuel : Nat} (ht : Tryz.prog.underlying t = some (.slice e)) (hn : Tryz.prog.cellsOf e = n)
  (hR : ∀ fuel', fuel' < fuel → Weighs H enc e R sz fuel') : Weighs H enc t (RowR' n R) (fun xs => sumOf sz xs + 1) fuel := by
 intro W cs y xs h hx
 obtain ⟨A, cap, hcs, hl⟩ := hx
 rcases DataW.trod_slice ht h with ⟨e1, e2⟩ | ⟨a, len, cap', elems, rest, m, hfu, hcs', e2, _, _, _, hlen, hel, _⟩
 ·rw [hcs] at e1
  simp only [List.cons.injEq, and_true, Value.slice.injEq] at e1
  have : xs = [] := List.length_eq_zero_iff.1 e1.2.1
  subst this
  rw [e2]
  simp [Rows.uptoBulk, sumOf]
 ·rw [hcs] at hcs'
  simp only [List.cons.injEq, and_true, Value.slice.injEq] at hcs'
  obtain ⟨hA, hxl, _⟩ := hcs'
  rw [e2]
  show sumOf sz xs + 1 ≤ Rows.uptoBulk (.slice _ _)
  rw [bulk_slice]
  have hs : sumOf sz xs ≤ Rows.uptoBulkAll (elems.map (·.1)) := by
   rcases hl with h0 | ⟨b, o, hA', hlt, hr⟩
   ·subst h0; unfold sumOf; exact Nat.zero_le _
   ·rw [hA] at hA'
    simp only [Option.some.injEq] at hA'
    subst hA'
    refine bulk_sum (by rw [List.length_map]; omega) (fun i x d hx hd => ?_)
    rw [List.getElem?_map] at hd
    have hi : i < len := by have := (List.getElem?_eq_some_iff.1 hx).1; omega
    obtain ⟨vs, h1, h2, h3⟩ := hr i x hx
    have h4 := hel i hi
    cases hq : elems[i]? with
    | none => rw [hq] at hd; cases hd
    | some el =>
     rw [hq] at hd h4
     obtain rfl : el.1 = d := by simpa using hd
     obtain ⟨vs', hv, ht'⟩ := Option.bind_eq_some_iff.1 h4
     rw [hn] at hv
     obtain ⟨_, hvl, hat⟩ := World.cells?_some hv
     have hadd : ∀ j, ((⟨b, o, none⟩ : Addr).add (i * n)).add j = ⟨b, o + i * n + j, none⟩ := fun j => by
      rw [Go.Deep.add_add]
      unfold Addr.add
      split
      ·simp_all
      ·simp [Nat.add_assoc]
     have : vs' = vs := by
      apply List.ext_getElem?
      intro j
      rcases Nat.lt_or_ge j n with hj | hj
      ·rw [← hat j hj, hadd]
       have hu := List.getElem?_eq_getElem (show j < vs.length by omega)
       rw [hu]
       exact h2 j _ hu
      ·rw [List.getElem?_eq_none (by omega), List.getElem?_eq_none (by omega)]
     subst this
     exact hR m (by omega) W _ _ x ht' h3
  omega
theorem fullL_sum : ∀ l : List Sexp, Sexp.fullL l = sumOf Sexp.full l
 | [] => by rw [Sexp.fullL_nil]; rfl
 | x :: r => by rw [Sexp.fullL_cons, fullL_sum r]; rfl
theorem weighs_sexp (fuel : Nat) : Weighs H enc 30 SexpR Sexp.full fuel := by
 induction fuel using Nat.strongRecOn with
 | _ fuel ih =>
  intro W cs y x h hx
  obtain ⟨f0, f1, f2, hu, o0, o1, o2, t0, t1, t2⟩ := fSx
  obtain ⟨ys, n, hfu, hy, _, hyl, hg⟩ := DataW.trod_struct hu h
  obtain ⟨y0, y1, y2, rfl⟩ := list3 (show ys.length = 3 from hyl)
  obtain ⟨A, c, rfl, hl, _, _, ht, _⟩ := hx.open'
  have g1 := hg 1 f1 rfl
  have g2 := hg 2 f2 rfl
  rw [o1, t1, cS] at g1
  rw [o2, t2, cLSx] at g2
  have b1 := weighs_str n W _ _ x.text g1 ⟨rfl, ht⟩
  have b2 := weighs_slice (sz := Sexp.full) (fuel := n) Tryz.underlying28 cSx (fun m hm => ih m (by omega)) W _ _ x.l g2 ⟨A, c, rfl, hl⟩
  rw [hy]
  show x.full ≤ Rows.uptoBulk (.agg [y0.1, y1.1, y2.1])
  rw [bulk_agg, bulk_cons, bulk_cons, bulk_cons, Sexp.full_eq, fullL_sum]
  simp only at b1 b2
  omega
theorem weighs_macro (fuel : Nat) : Weighs H enc 47 MacroR (fun m => m.body.full) fuel := by
 intro W cs y m h hm
 obtain ⟨f0, f1, f2, f3, hu, o0, o1, o2, o3, t0, t1, t2, t3⟩ := fMacro
 obtain ⟨ys, n, hfu, hy, _, hyl, hg⟩ := DataW.trod_struct hu h
 obtain ⟨y0, y1, y2, y3, rfl⟩ := list4 (show ys.length = 4 from hyl)
 obtain ⟨A, c, bv, rfl, hb, _⟩ := hm
 have g3 := hg 3 f3 rfl
 rw [o3, t3, cSx] at g3
 obtain ⟨A', c', rfl, _⟩ := hb.open'
 have b3 := weighs_sexp n W _ _ m.body g3 hb
 rw [hy]
 show m.body.full ≤ Rows.uptoBulk (.agg [y0.1, y1.1, y2.1, y3.1])
 rw [bulk_agg, bulk_cons, bulk_cons, bulk_cons, bulk_cons]
 omega
theorem weighs_sig (fuel : Nat) : Weighs H enc 26 SigR (fun g => sumOf (fun m => m.body.full) g.macros) fuel := by
 intro W cs y g h hg
 obtain ⟨f0, f1, f2, hu, o0, o1, o2, t0, t1, t2⟩ := fSig
 obtain ⟨ys, n, hfu, hy, _, hyl, hgg⟩ := DataW.trod_struct hu h
 obtain ⟨y0, y1, y2, rfl⟩ := list3 (show ys.length = 3 from hyl)
 obtain ⟨A1, c1, A2, c2, A3, c3, rfl, hS⟩ := hg
 have g2 := hgg 2 f2 rfl
 rw [o2, t2, cLMacro] at g2
 have b2 := weighs_slice (sz := fun m : Macro => m.body.full) (fuel := n) Tryz.underlying24 cMacro (fun m _ => weighs_macro m) W _ _ g.macros g2 ⟨A3, c3, rfl, hS.macros⟩
 rw [hy]
 show _ ≤ Rows.uptoBulk (.agg [y0.1, y1.1, y2.1])
 rw [bulk_agg, bulk_cons, bulk_cons, bulk_cons]
 simp only at b2
 show sumOf (fun m : Macro => m.body.full) g.macros ≤ _
 omega
set_option maxRecDepth 100000 in
theorem bulk_sig {W : World} {cs : Array Value} {d : DataW H} {ps : List MemPlace} {g : Sig} (h : DataW.Trod enc Tryz.prog W 0 (fun _ => true) true 26 (.agg cs) d ps) (hg : SigR W cs.toList g) : sumOf (fun m : Macro => m.body.full) g.macros ≤ Rows.uptoBulk d := by
 obtain ⟨fuel, ht⟩ := h
 exact weighs_sig fuel W _ _ g ht hg
set_option maxRecDepth 100000 in
theorem bulk_sexp {W : World} {cs : Array Value} {d : DataW H} {ps : List MemPlace} {x : Sexp} (h : DataW.Trod enc Tryz.prog W 0 (fun _ => true) true 30 (.agg cs) d ps) (hx : SexpR W cs.toList x) : x.full ≤ Rows.uptoBulk d := by
 obtain ⟨fuel, ht⟩ := h
 exact weighs_sexp fuel W _ _ x ht hx
set_option maxRecDepth 100000 in
theorem open_sx {W : World} {base : Nat} {v : Value} {d : DataW H} {ps : List MemPlace} (hval : Value.okWide Tryz.prog W .any base 30 v) (h : DataW.Trod enc Tryz.prog W 0 (fun _ => true) true 30 v d ps) (hf : Fits Tryz.prog 30 d) :
  ∃ x A c, v = .agg #[.int .i8 x.kind, .string x.text, .slice A x.l.length c] ∧ SexpR W [.int .i8 x.kind, .string x.text, .slice A x.l.length c] x := by
 obtain ⟨f0, f1, f2, hu, _⟩ := fSx
 obtain ⟨cs, rfl, hsz⟩ := okWide_struct hu hval
 obtain ⟨fuel, ht⟩ := h
 obtain ⟨x, hx⟩ := opens_sexp fuel W _ _ ht hf
 have hx' := hx
 obtain ⟨A, c, e, _⟩ := hx'.open'
 rw [e] at hx
 refine ⟨x, A, c, ?_, hx⟩
 have e2 : cs.toList = _ := e
 congr 1
 exact Array.toList_inj.1 e2
end
end Go.Proofs.YtpmdcckapddchaaGreat.Dt
/- Depth: the program's walk and the document's. -/
namespace Go.Proofs.YtpmdcckapddchaaGreat.Dt
open Go.RowKit

theorem max_if (a b : Int) : (if a < b then b else a) = max a b := by split <;> omega
theorem sexp_cells {w : World} {A : Option Addr} {l : List Sexp} (h : Lies 3 SexpR w A l) {k : Nat} {y : Sexp} (hy : l[k]? = some y) :
  ∃ b o A' c', A = some ⟨b, o, none⟩ ∧ b < w.heap.size ∧ w.cell? ⟨b, o + k * 3, none⟩ = some (.int .i8 y.kind) ∧ w.cell? ⟨b, o + k * 3 + 1, none⟩ = some (.string y.text) ∧ w.cell? ⟨b, o + k * 3 + 2, none⟩ = some (.slice A' y.l.length c') ∧
   SexpR w [.int .i8 y.kind, .string y.text, .slice A' y.l.length c'] y := by
 obtain ⟨b, o, vs, hA, hb, _, hc, hr⟩ := h.at' hy
 obtain ⟨A', c', e, _⟩ := hr.open'
 subst e
 exact ⟨b, o, A', c', hA, hb, hc 0 _ rfl, hc 1 _ rfl, hc 2 _ rfl, hr⟩

set_option maxRecDepth 100000 in
set_option maxHeartbeats 3200000 in
theorem depth_any : ∀ (n : Nat) (x : Sexp), SizeOf.sizeOf x < n → ∀ (w : World) (A : Option Addr) (c : Nat), SexpR w [.int .i8 x.kind, .string x.text, .slice A x.l.length c] x →
  Calls Tryz.prog 59 #[.agg #[.int .i8 x.kind, .string x.text, .slice A x.l.length c]] w fun e w' => e = .returned (.int .i64 x.depth) ∧ Below w.heap.size w w' := by
 intro n
 induction n with
 | zero => intro x hx; omega
 | succ n ih =>
  intro x hx w A c hr
  have IH := kp ih
  obtain ⟨A0, c0, e0, hl, hc, hcm, _, hlb, _⟩ := hr.open'
  simp only [List.cons.injEq, Value.slice.injEq, and_true, true_and] at e0
  obtain ⟨rfl, rfl⟩ := e0
  have HE := kp (Sexp.depth_eq x)
  by_cases hk : x.kind = 3
  ·replace HE := kp (HE.out.trans (if_pos hk))
   have HL := kp hl
   have HX := kp hx
   have HM := kp (fun y (hy : y ∈ x.l) => Sexp.mem_lt hy)
   rw [hk]
   generalize x.l = l at *
   generalize x.text = t at *
   generalize x.depth = d at *
   clear hl hr hk hx ih
   go_enter Tryz.func59, Tryz.ntmps59
   go_wp2_with fail
   have B0 := kp ((Below.refl w.heap.size w).alloc (Nat.le_refl _) (.cells #[.int .i8 3, .string t, .slice A l.length c] 30))
   generalize w.alloc (.cells #[.int .i8 3, .string t, .slice A l.length c] 30) = w0 at *
   go_loopw [3, 12] (fun v i wr => ∃ k : Nat, k ≤ l.length ∧ i = .int .i64 k ∧ v = .int .i64 (Sexp.depthL (l.take k)) ∧ Below w.heap.size w wr) (fun _ i _ => l.length - (intOf i).toNat)
   case atStart => exact ⟨0, Nat.zero_le _, rfl, rfl, B0.out⟩
   case round =>
    obtain ⟨k, hk, rfl, rfl, hb⟩ := hrel
    have HB := kp hb
    obtain ⟨d0, d1⟩ := Sexp.depthL_I64 (l.take k)
    by_cases hlt : k < l.length
    ·have hlt2 : (k : Int) < (l.length : Int) := by omega
     have hy := List.getElem?_eq_getElem hlt
     have hym := List.getElem_mem hlt
     generalize l[k] = y at hy hym
     obtain ⟨b, o, A', c', rfl, hbl, e0, e1, e2, hr⟩ := sexp_cells (HL.out.on SexpR.lasts hb) hy
     have HY := kp (fun W (hW : Below wr.heap.size wr W) => IH.out y (by have h1 := HM.out y hym; have h2 := HX.out; omega) W A' c' (SexpR.lasts _ _ _ _ hW hr))
     have HT := kp (show Sexp.depthL (l.take (k + 1)) = max (Sexp.depthL (l.take k)) y.depth by rw [List.take_add_one, hy]; exact Sexp.depthL_snoc _ _)
     obtain ⟨f0, f1⟩ := Sexp.depth_I64 y
     generalize Sexp.depthL (l.take k) = dl at *
     clear hb hr hy hym
     go_wp2_with fail
     refine (HY.out _ ((Below.refl _ _).alloc (Nat.le_refl _) _)).mono ?_
     rintro e w2 ⟨rfl, hb2⟩
     have HB2 := kp ((HB.out.alloc HB.out.size _).trans (hb2.mono (by have := HB.out.size; simp; omega)))
     clear hb2
     go_wp2_with fail
     go_roundw
     case rel => exact ⟨k + 1, by omega, by go_num, by first | rw [HT.out, max_if] | rw [HT.out], HB2.out⟩
     case measure => simp [intOf]; omega
    ·obtain rfl : k = l.length := by omega
     rw [List.take_length] at d0 d1 ⊢
     go_wp2_with fail
     go_ret
     exact ⟨ret_int HE.out.symm, HB.out⟩
  ·replace HE := kp (HE.out.trans (if_neg hk))
   have hk2 : (x.kind == 3) = false := beq_eq_false_iff_ne.2 hk
   go_enter Tryz.func59, Tryz.ntmps59
   go_wp2_with fail
   go_ret
   exact ⟨ret_int HE.out.symm, (Below.refl w.heap.size w).alloc (Nat.le_refl _) _⟩

theorem box_cells (w : World) (a b c : Value) (t : TypeId) : (w.alloc (.cells #[a, b, c] t)).cell? ⟨w.heap.size, 0, none⟩ = some a ∧ (w.alloc (.cells #[a, b, c] t)).cell? ⟨w.heap.size, 1, none⟩ = some b ∧ (w.alloc (.cells #[a, b, c] t)).cell? ⟨w.heap.size, 2, none⟩ = some c ∧ (w.alloc (.cells #[a, b, c] t)).heap.size = w.heap.size + 1 := by
 refine ⟨?_, ?_, ?_, by simp⟩ <;> rw [World.cell?_alloc_mark] <;> rfl

set_option maxRecDepth 100000 in
set_option maxHeartbeats 3200000 in
theorem rdepth_any : ∀ (n : Nat) (x : Sexp), SizeOf.sizeOf x < n → ∀ (w : World) (A : Option Addr) (c : Nat), SexpR w [.int .i8 x.kind, .string x.text, .slice A x.l.length c] x →
  Calls Tryz.prog 22 #[.agg #[.int .i8 x.kind, .string x.text, .slice A x.l.length c]] w fun e w' => e = .returned (.int .i64 x.depth) ∧ Below w.heap.size w w' := by
 intro n
 induction n with
 | zero => intro x hx; omega
 | succ n ih =>
  intro x hx w A c hr
  have IH := kp ih
  obtain ⟨A0, c0, e0, hl, hc, hcm, _, hlb, _⟩ := hr.open'
  simp only [List.cons.injEq, Value.slice.injEq, and_true, true_and] at e0
  obtain ⟨rfl, rfl⟩ := e0
  have HE := kp (Sexp.depth_eq x)
  by_cases hk : x.kind = 3
  ·replace HE := kp (HE.out.trans (if_pos hk))
   have HX := kp hx
   have HM := kp (fun y (hy : y ∈ x.l) => Sexp.mem_lt hy)
   rw [hk]
   generalize x.l = l at *
   generalize x.text = t at *
   generalize x.depth = d at *
   clear hr hk hx ih
   go_enter Tryz.func22, Tryz.ntmps22
   go_wp2_with fail
   obtain ⟨_, _, q2, z0⟩ := box_cells w (.int .i8 3) (.string t) (.slice A l.length c) 30
   have B0 := kp ((Below.refl w.heap.size w).alloc (Nat.le_refl _) (.cells #[.int .i8 3, .string t, .slice A l.length c] 30))
   have HL := kp (hl.on SexpR.lasts B0.out)
   generalize w.alloc (.cells #[.int .i8 3, .string t, .slice A l.length c] 30) = w0 at *
   clear hl
   go_loopw [3, 4] (fun v i wr => ∃ k : Nat, k ≤ l.length ∧ i = .int .i64 k ∧ v = .int .i64 (Sexp.depthL (l.take k)) ∧ Below w0.heap.size w0 wr) (fun _ i _ => l.length - (intOf i).toNat)
   case atStart => exact ⟨0, Nat.zero_le _, rfl, rfl, Below.refl _ _⟩
   case round =>
    obtain ⟨k, hk, rfl, rfl, hb⟩ := hrel
    have HB := kp hb
    obtain ⟨d0, d1⟩ := Sexp.depthL_I64 (l.take k)
    have qr := ((bcell hb).1 w.heap.size 2 (by omega)).trans q2
    by_cases hlt : k < l.length
    ·have hlt2 : (k : Int) < (l.length : Int) := by omega
     have hy := List.getElem?_eq_getElem hlt
     have hym := List.getElem_mem hlt
     generalize l[k] = y at hy hym
     obtain ⟨b, o, A', c', rfl, hbl, e0, e1, e2, hr⟩ := sexp_cells (HL.out.on SexpR.lasts hb) hy
     have HY := kp (IH.out y (by have h1 := HM.out y hym; have h2 := HX.out; omega) wr A' c' hr)
     have HT := kp (show Sexp.depthL (l.take (k + 1)) = max (Sexp.depthL (l.take k)) y.depth by rw [List.take_add_one, hy]; exact Sexp.depthL_snoc _ _)
     obtain ⟨f0, f1⟩ := Sexp.depth_I64 y
     generalize Sexp.depthL (l.take k) = dl at *
     clear hb hr hy hym q2
     go_wp2_with fail
     refine HY.out.mono ?_
     rintro e w2 ⟨rfl, hb2⟩
     have HB2 := kp (HB.out.trans (hb2.mono HB.out.size))
     clear hb2
     go_wp2_with fail
     go_roundw
     case rel => exact ⟨k + 1, by omega, by go_num, by first | rw [HT.out, max_if] | rw [HT.out], HB2.out⟩
     case measure => simp [intOf]; omega
    ·obtain rfl : k = l.length := by omega
     rw [List.take_length] at d0 d1 ⊢
     clear hb q2
     go_wp2_with fail
     go_ret
     exact ⟨ret_int HE.out.symm, B0.out.trans (HB.out.mono (by omega))⟩
  ·replace HE := kp (HE.out.trans (if_neg hk))
   have hk2 : (x.kind == 3) = false := beq_eq_false_iff_ne.2 hk
   go_enter Tryz.func22, Tryz.ntmps22
   go_wp2_with fail
   go_ret
   exact ⟨ret_int HE.out.symm, (Below.refl w.heap.size w).alloc (Nat.le_refl _) _⟩
end Go.Proofs.YtpmdcckapddchaaGreat.Dt
/- An expression's head. -/
namespace Go.Proofs.YtpmdcckapddchaaGreat.Dt
open Go.RowKit

def headS (x : Sexp) : ByteArray := match x.l with
 | [] => { data := #[] }
 | y :: _ => if x.kind = 3 ∧ y.kind = 0 then y.text else { data := #[] }
set_option maxHeartbeats 1600000 in
theorem head_any {w : World} {A : Option Addr} {c : Nat} {x : Sexp} (h : SexpR w [.int .i8 x.kind, .string x.text, .slice A x.l.length c] x) :
  Calls Tryz.prog 118 #[.agg #[.int .i8 x.kind, .string x.text, .slice A x.l.length c]] w fun e w' => e = .returned (.string (headS x)) ∧ Below w.heap.size w w' := by
 obtain ⟨A0, c0, e0, hl, hc, hcm, _, hlb, _⟩ := h.open'
 simp only [List.cons.injEq, Value.slice.injEq, and_true, true_and] at e0
 obtain ⟨rfl, rfl⟩ := e0
 have HB := kp ((Below.refl w.heap.size w).alloc (Nat.le_refl _) (.cells #[.int .i8 x.kind, .string x.text, .slice A x.l.length c] 30))
 have HS := kp (show headS x = match x.l with
  | [] => { data := #[] }
  | y :: _ => if x.kind = 3 ∧ y.kind = 0 then y.text else { data := #[] } from rfl)
 have HL := kp hl
 generalize headS x = hd at *
 generalize x.text = t at *
 generalize x.l = l at *
 clear h hl
 by_cases hk : x.kind = 3
 ·rw [hk] at HS HB ⊢
  cases l with
  | nil =>
   replace HS := HS.out
   subst HS
   go_enter Tryz.func118, Tryz.ntmps118
   go_wp2_with fail
   go_ret
   exact ⟨rfl, HB.out⟩
  | cons y r =>
   obtain ⟨b, o, A', c', rfl, hbl, e0, e1, e2, hr⟩ := sexp_cells HL.out (k := 0) (y := y) rfl
   have HC := kp (show ∀ j u, w.cell? ⟨b, o + 0 * 3 + j, none⟩ = some u → ∀ w', Below w.heap.size w w' → w'.cell? ⟨b, o + 0 * 3 + j, none⟩ = some u from fun j u hu w' hb => (hb.cell (p := ⟨b, o + 0 * 3 + j, none⟩) hbl).trans hu)
   have hn : (((y :: r).length : Int) == 0) = false := by rw [beq_eq_false_iff_ne, List.length_cons]; omega
   have hn2 : (0 : Int) < ((y :: r).length : Int) := by rw [List.length_cons]; omega
   generalize (y :: r).length = n at *
   clear hr HL e2
   by_cases h0 : y.kind = 0
   ·replace HS : hd = y.text := HS.out.trans (if_pos ⟨rfl, h0⟩)
    subst HS
    rw [h0] at e0
    go_enter Tryz.func118, Tryz.ntmps118
    go_upto_region 1 with fail
    have d0 := HC.out 0 _ e0 _ HB.out
    have d1 := HC.out 1 _ e1 _ HB.out
    simp only [Nat.add_zero, Nat.zero_mul] at d0
    simp only [Nat.add_zero, Nat.zero_mul] at d1
    obtain ⟨q0, q1, q2, _⟩ := box_cells w (.int .i8 3) (.string t) (.slice (some ⟨b, o, none⟩) n c) 30
    generalize w.alloc (.cells #[.int .i8 3, .string t, .slice (some ⟨b, o, none⟩) n c] 30) = w1 at *
    go_wp2_with fail
    go_ret
    exact ⟨rfl, HB.out⟩
   ·replace HS : hd = { data := #[] } := HS.out.trans (if_neg (fun h => h0 h.2))
    subst HS
    have h0' : (y.kind == 0) = false := beq_eq_false_iff_ne.2 h0
    have h0'' : (y.kind != 0) = true := by rw [bne, h0']; rfl
    generalize y.kind = yk at *
    go_enter Tryz.func118, Tryz.ntmps118
    go_upto_region 1 with fail
    have d0 := HC.out 0 _ e0 _ HB.out
    simp only [Nat.add_zero, Nat.zero_mul] at d0
    obtain ⟨q0, q1, q2, _⟩ := box_cells w (.int .i8 3) (.string t) (.slice (some ⟨b, o, none⟩) n c) 30
    generalize w.alloc (.cells #[.int .i8 3, .string t, .slice (some ⟨b, o, none⟩) n c] 30) = w1 at *
    go_wp2_with fail
    go_ret
    exact ⟨rfl, HB.out⟩
 ·have hk' : (x.kind == 3) = false := beq_eq_false_iff_ne.2 hk
  have hk'' : (x.kind != 3) = true := by rw [bne, hk']; rfl
  replace HS : hd = { data := #[] } := by
   rw [HS.out]
   cases l with
   | nil => rfl
   | cons y r => exact if_neg (fun h => hk h.1)
  subst HS
  generalize x.kind = k at *
  generalize l.length = n at *
  go_enter Tryz.func118, Tryz.ntmps118
  go_wp2_with fail
  go_ret
  exact ⟨rfl, HB.out⟩
end Go.Proofs.YtpmdcckapddchaaGreat.Dt
