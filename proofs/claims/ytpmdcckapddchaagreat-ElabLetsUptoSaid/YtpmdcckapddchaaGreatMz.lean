import Derived.Test.YtpmdcckapddchaaGreatShort
import Derived.Test.YtpmdcckapddchaaGreatMd
import Derived.Test.YtpmdcckapddchaaGreatMb
import Derived.Test.YtpmdcckapddchaaGreatMh
import Derived.Test.YtpmdcckapddchaaGreatMc
import Derived.Test.YtpmdcckapddchaaGreatMe
import Derived.Lib.IndexLaws
import Derived.Test.YtpmdcckapddchaaGreatMy
/- merged by wip/merge.py from: ElSim ElSim2 ElSim3 Great4 NumIs NextP ReadP ElWake -/
/- Two makers side by side: what each step of theirs does. No program in sight. -/
namespace Go.Proofs.YtpmdcckapddchaaGreat.El
open Go.RowKit Go.Proofs.YtpmdcckapddchaaGreat.Dt Go.Proofs.YtpmdcckapddchaaGreat.Sg

def Pw (P : V → V → Prop) : List V → List V → Prop
 | [], [] => True
 | v :: l, w :: m => P v w ∧ Pw P l m
 | _, _ => False
def EnvP (P : V → V → Prop) : Env → Env → Prop
 | [], [] => True
 | p :: l, q :: m => p.1 = q.1 ∧ P p.2 q.2 ∧ EnvP P l m
 | _, _ => False
section
variable {P Q : V → V → Prop}
theorem Pw.imp (h : ∀ v w, P v w → Q v w) : ∀ {l m : List V}, Pw P l m → Pw Q l m
 | [], [], _ => trivial
 | _ :: _, _ :: _, ⟨a, b⟩ => ⟨h _ _ a, Pw.imp h b⟩
 | [], _ :: _, h => h.elim
 | _ :: _, [], h => h.elim
theorem Pw.len : ∀ {l m : List V}, Pw P l m → l.length = m.length
 | [], [], _ => rfl
 | _ :: _, _ :: _, ⟨_, b⟩ => by simp [Pw.len b]
 | [], _ :: _, h => h.elim
 | _ :: _, [], h => h.elim
theorem Pw.append : ∀ {l m l' m' : List V}, Pw P l m → Pw P l' m' → Pw P (l ++ l') (m ++ m')
 | [], [], _, _, _, h => h
 | _ :: _, _ :: _, _, _, ⟨a, b⟩, h => ⟨a, Pw.append b h⟩
 | [], _ :: _, _, _, h, _ => h.elim
 | _ :: _, [], _, _, h, _ => h.elim
theorem Pw.reverse : ∀ {l m : List V}, Pw P l m → Pw P l.reverse m.reverse
 | [], [], _ => trivial
 | v :: l, w :: m, ⟨a, b⟩ => by
  rw [List.reverse_cons, List.reverse_cons]
  exact (Pw.reverse b).append ⟨a, trivial⟩
 | [], _ :: _, h => h.elim
 | _ :: _, [], h => h.elim
theorem Pw.sorts (hP : ∀ v w, P v w → v.1 = w.1) : ∀ {l m : List V}, Pw P l m → l.map Prod.fst = m.map Prod.fst
 | [], [], _ => rfl
 | _ :: _, _ :: _, ⟨a, b⟩ => by simp [hP _ _ a, Pw.sorts hP b]
 | [], _ :: _, h => h.elim
 | _ :: _, [], h => h.elim
theorem Pw.head (h0 : P v0 v0) : ∀ {l m : List V}, Pw P l m → P (l.getD 0 v0) (m.getD 0 v0)
 | [], [], _ => h0
 | _ :: _, _ :: _, ⟨a, _⟩ => a
 | [], _ :: _, h => h.elim
 | _ :: _, [], h => h.elim
theorem Pw.tail : ∀ {l m : List V}, Pw P l m → Pw P l.tail m.tail
 | [], [], _ => trivial
 | _ :: _, _ :: _, ⟨_, b⟩ => b
 | [], _ :: _, h => h.elim
 | _ :: _, [], h => h.elim
theorem EnvP.imp (h : ∀ v w, P v w → Q v w) : ∀ {l m : Env}, EnvP P l m → EnvP Q l m
 | [], [], _ => trivial
 | _ :: _, _ :: _, ⟨e, a, b⟩ => ⟨e, h _ _ a, EnvP.imp h b⟩
 | [], _ :: _, h => h.elim
 | _ :: _, [], h => h.elim
theorem EnvP.append : ∀ {l m l' m' : Env}, EnvP P l m → EnvP P l' m' → EnvP P (l ++ l') (m ++ m')
 | [], [], _, _, _, h => h
 | _ :: _, _ :: _, _, _, ⟨e, a, b⟩, h => ⟨e, a, EnvP.append b h⟩
 | [], _ :: _, _, _, h, _ => h.elim
 | _ :: _, [], _, _, h, _ => h.elim
theorem EnvP.reverse : ∀ {l m : Env}, EnvP P l m → EnvP P l.reverse m.reverse
 | [], [], _ => trivial
 | v :: l, w :: m, ⟨e, a, b⟩ => by
  rw [List.reverse_cons, List.reverse_cons]
  exact (EnvP.reverse b).append ⟨e, a, trivial⟩
 | [], _ :: _, h => h.elim
 | _ :: _, [], h => h.elim
theorem EnvP.zip : ∀ (ns : List ByteArray) {l m : List V}, Pw P l m → EnvP P (ns.zip l) (ns.zip m)
 | [], _, _, _ => by simp [EnvP]
 | n :: ns, [], [], _ => by simp [EnvP]
 | n :: ns, _ :: _, _ :: _, ⟨a, b⟩ => ⟨rfl, a, EnvP.zip ns b⟩
 | n :: ns, [], _ :: _, h => h.elim
 | n :: ns, _ :: _, [], h => h.elim
end
def appN (c : Cx) (f : Fun4) (k : Nat) (l : List V) (st : St) : V × St := putM c ⟨13, f.len, nthN l 0, nthN l 1, nthN l 2, f.res, k, 0⟩ st
def OutP (S B : St → St → Prop) (R : List Node → V → V → Prop) (t : List Node) (p q : V × St) : Prop := (S p.2 q.2 ∧ R q.2.t p.1 q.1 ∧ t <+: q.2.t) ∨ B p.2 q.2
structure Sim (c1 c2 : Cx) where
 same : c1.g = c2.g
 S : St → St → Prop
 B : St → St → Prop
 R : List Node → V → V → Prop
 N : Int → Prop
 ok : ∀ {s1 s2}, S s1 s2 → s1.e = 0 ∧ s2.e = 0
 bad : ∀ {s1 s2 t1 t2}, B s1 s2 → (s1.e ≠ 0 → t1 = s1) → (s2.e ≠ 0 → t2 = s2) → B t1 t2
 bad_ne : ∀ {s1 s2}, B s1 s2 → s1.e ≠ 0 ∨ s2.e ≠ 0
 mono : ∀ {t t' v w}, R t v w → t <+: t' → R t' v w
 sort : ∀ {t v w}, R t v w → v.1 = w.1
 zero : N 0
 neg : ∀ {n}, N n → N (-n)
 nought : ∀ {s1 s2}, S s1 s2 → R s2.t v0 v0
 op : ∀ {s1 s2} (k n : Int) {l1 l2}, S s1 s2 → Pw (R s2.t) l1 l2 → N n → (S (opM c1 k n l1 s1).2 (opM c2 k n l2 s2).2 ∧ R (opM c2 k n l2 s2).2.t (opM c1 k n l1 s1).1 (opM c2 k n l2 s2).1 ∧ s2.t <+: (opM c2 k n l2 s2).2.t) ∨ B (opM c1 k n l1 s1).2 (opM c2 k n l2 s2).2
 diff : ∀ {s1 s2} (n : Int) {v1 v2 w1 w2}, S s1 s2 → R s2.t v1 v2 → R s2.t w1 w2 → (S (diffM c1 v1 w1 n s1).2 (diffM c2 v2 w2 n s2).2 ∧ R (diffM c2 v2 w2 n s2).2.t (diffM c1 v1 w1 n s1).1 (diffM c2 v2 w2 n s2).1 ∧ s2.t <+: (diffM c2 v2 w2 n s2).2.t) ∨ B (diffM c1 v1 w1 n s1).2 (diffM c2 v2 w2 n s2).2
 number : ∀ {s1 s2} {x : Sexp}, S s1 s2 → x.stands = true → isNumX x = true → (S (numberM c1 x s1).2 (numberM c2 x s2).2 ∧ (numberM c2 x s2).2.t = s2.t ∧ N (numberM c1 x s1).1) ∨ B (numberM c1 x s1).2 (numberM c2 x s2).2
 fail : ∀ {s1 s2} (e : Int), S s1 s2 → e ≠ 0 → B (failS e s1) (failS e s2)
 app : ∀ {s1 s2} (k : Nat) (f : Fun4) {l1 l2}, c2.g.funs[k]? = some f → S s1 s2 → Pw (R s2.t) l1 l2 → (l2.length : Int) = f.len → sortsM l2 [f.a0, f.a1, f.a2] s2 = s2 → OutP S B R s2.t (appN c1 f k l1 s1) (appN c2 f k l2 s2)
 mac : ∀ {s1 s2} {r1 r2 : Rec} (k : Nat) (m : Macro) {l1 l2}, c2.g.macros[k]? = some m → S s1 s2 → Pw (R s2.t) l1 l2 → l2.length = m.params.length → (∀ {u1 u2 e1 e2}, S u1 u2 → EnvP (R u2.t) e1 e2 → OutP S B R u2.t (r1 k m.body e1 u1) (r2 k m.body e2 u2)) → OutP S B R s2.t (macroM c1 r1 m k l1 s1) (macroM c2 r2 m k l2 s2)
section
variable {c1 c2 : Cx}
def Sim.Out (M : Sim c1 c2) (t : List Node) (p q : V × St) : Prop := (M.S p.2 q.2 ∧ M.R q.2.t p.1 q.1 ∧ t <+: q.2.t) ∨ M.B p.2 q.2
def Sim.OutL (M : Sim c1 c2) (t : List Node) (p q : List V × St) : Prop := (M.S p.2 q.2 ∧ Pw (M.R q.2.t) p.1 q.1 ∧ t <+: q.2.t) ∨ M.B p.2 q.2
theorem Sim.Out.wide {M : Sim c1 c2} {t u : List Node} {p q : V × St} (h : M.Out u p q) (ht : t <+: u) : M.Out t p q := h.imp_left fun h => ⟨h.1, h.2.1, ht.trans h.2.2⟩
theorem Sim.OutL.wide {M : Sim c1 c2} {t u : List Node} {p q : List V × St} (h : M.OutL u p q) (ht : t <+: u) : M.OutL t p q := h.imp_left fun h => ⟨h.1, h.2.1, ht.trans h.2.2⟩
theorem Sim.env (M : Sim c1 c2) {t u : List Node} {l m : Env} (h : EnvP (M.R t) l m) (ht : t <+: u) : EnvP (M.R u) l m := h.imp fun _ _ h => M.mono h ht
variable (M : Sim c1 c2)
end
end Go.Proofs.YtpmdcckapddchaaGreat.El
/- Two makers side by side: a term. No program in sight. -/
namespace Go.Proofs.YtpmdcckapddchaaGreat.El
open Go.RowKit Go.Proofs.YtpmdcckapddchaaGreat.Dt Go.Proofs.YtpmdcckapddchaaGreat.Sg

section
variable {c1 c2 : Cx} (M : Sim c1 c2)
variable {r1 r2 : Sexp → St → V × St}
def Sim.Each (M : Sim c1 c2) (r1 r2 : Sexp → St → V × St) (t : List Node) (y : Sexp) : Prop := ∀ s1 s2, M.S s1 s2 → t <+: s2.t → M.Out s2.t (r1 y s1) (r2 y s2)
end
end Go.Proofs.YtpmdcckapddchaaGreat.El
/- Two makers side by side: differences, calls, lets, lists, any term. No program in sight. -/
namespace Go.Proofs.YtpmdcckapddchaaGreat.El
open Go.RowKit Go.Proofs.YtpmdcckapddchaaGreat.Dt Go.Proofs.YtpmdcckapddchaaGreat.Sg

theorem l_stands {x : Sexp} (h : x.stands = true) : ∀ y ∈ x.l, y.stands = true := by
 intro y hy
 rw [Sexp.stands_eq] at h
 have hno : x.l.isEmpty = true → False := fun e => by
  rw [List.isEmpty_iff] at e
  rw [e] at hy
  cases hy
 split at h
 ·rw [Bool.and_eq_true] at h; exact (hno h.1).elim
 split at h
 ·rw [Bool.and_eq_true] at h; exact (hno h.1).elim
 split at h
 ·rw [Bool.and_eq_true] at h; exact (hno h.1).elim
 split at h
 ·rw [Bool.and_eq_true, Sexp.standsL_all, List.all_eq_true] at h
  exact h.2 y hy
 ·cases h
section
variable {c1 c2 : Cx} (M : Sim c1 c2)
variable {r1 r2 : Sexp → St → V × St}
def Sim.At (M : Sim c1 c2) (kn1 kn2 : Nat) (x : Sexp) : Prop := ∀ env1 env2 s1 s2, M.S s1 s2 → EnvP (M.R s2.t) env1 env2 → M.Out s2.t (termP c1 kn1 x env1 s1) (termP c2 kn2 x env2 s2)
variable {kn1 kn2 : Nat} {env1 env2 : Env} {s1 s2 : St}
theorem Sim.At.each {M : Sim c1 c2} {x : Sexp} (h : M.At kn1 kn2 x) (he : EnvP (M.R s2.t) env1 env2) : M.Each (fun y => termP c1 kn1 y env1) (fun y => termP c2 kn2 y env2) s2.t x := fun u1 u2 hu ht => h env1 env2 u1 u2 hu (M.env he ht)
end
end Go.Proofs.YtpmdcckapddchaaGreat.El
/- The statements' own bounds: what is too great to be asked. -/
namespace Go.Proofs.YtpmdcckapddchaaGreat.Gr
open Go.RowKit Go.Proofs.YtpmdcckapddchaaGreat.Dt Go.Proofs.YtpmdcckapddchaaGreat.Sg

def SomeInt (e : Ending) : Prop := ∃ r : Int, I64 r ∧ e = .returned (.int .i64 r)
theorem someInt {r : Int} (h : I64 r) : SomeInt (.returned (.int .i64 r)) := ⟨r, h, rfl⟩
set_option maxRecDepth 100000 in
set_option maxHeartbeats 3200000 in
theorem size_any : ∀ (n : Nat) (x : Sexp), SizeOf.sizeOf x < n → ∀ (w : World) (A : Option Addr) (c : Nat) (most : Int), SexpR w [.int .i8 x.kind, .string x.text, .slice A x.l.length c] x →
  Calls Tryz.prog 24 #[.agg #[.int .i8 x.kind, .string x.text, .slice A x.l.length c], .int .i64 most] w fun e w' => SomeInt e ∧ Below w.heap.size w w' := by
 intro n
 induction n with
 | zero => intro x hx; omega
 | succ n ih =>
  intro x hx w A c most hr
  have IH := kp ih
  obtain ⟨A0, c0, e0, hl, hc, hcm, ht, hlb, _⟩ := hr.open'
  simp only [List.cons.injEq, Value.slice.injEq, and_true, true_and] at e0
  obtain ⟨rfl, rfl⟩ := e0
  have HL := kp hl
  have HX := kp hx
  have HM := kp (fun y (hy : y ∈ x.l) => Sexp.mem_lt hy)
  obtain ⟨g0, g1, g2⟩ := sig_cells w (.int .i8 x.kind) (.string x.text) (.slice A x.l.length c) 30
  have B0 := kp ((Below.refl w.heap.size w).alloc (Nat.le_refl _) (.cells #[.int .i8 x.kind, .string x.text, .slice A x.l.length c] 30))
  have hz : w.heap.size < (w.alloc (.cells #[.int .i8 x.kind, .string x.text, .slice A x.l.length c] 30)).heap.size := by simp
  have hlb2 : (x.l.length : Int) ≤ 140737488351232 := by omega
  generalize x.l = l at *
  generalize x.text = t at *
  generalize x.kind = kd at *
  clear hl hr hx ih hlb
  have HC := kp (fun W (hW : Below (w.alloc (.cells #[.int .i8 kd, .string t, .slice A l.length c] 30)).heap.size (w.alloc (.cells #[.int .i8 kd, .string t, .slice A l.length c] 30)) W) => ((bcell hW).1 w.heap.size 2 hz).trans g2)
  have HT := kp (show I64 (1 + (t.size : Int)) from ⟨by omega, by omega⟩)
  have H5 := kp (show I64 5001 from ⟨by omega, by omega⟩)
  have H6 := kp (show I64 (1 + min (t.size : Int) 5000) from ⟨by omega, by omega⟩)
  clear g0 g2 hz
  have HZ : 0 < 1 := by omega
  by_cases ht5 : (5000 : Int) < (t.size : Int)
  all_goals
   go_enter Tryz.func24, Tryz.ntmps24
   go_wp2_with fail
   generalize w.alloc (.cells #[.int .i8 kd, .string t, .slice A l.length c] 30) = w0 at *
   go_loopw [5, 6] (fun v i wr => ∃ (k : Nat) (z : Int), k ≤ l.length ∧ i = .int .i64 k ∧ v = .int .i64 z ∧ I64 z ∧ Below w0.heap.size w0 wr) (fun _ i _ => l.length - (intOf i).toNat)
   case atStart => first | exact ⟨0, _, by omega, rfl, rfl, HT.out, Below.refl _ _⟩ | exact ⟨0, _, by omega, rfl, rfl, H5.out, Below.refl _ _⟩ | exact ⟨0, _, by omega, rfl, rfl, H6.out, Below.refl _ _⟩
   case round =>
    obtain ⟨k, z, hk, rfl, rfl, hzi, hb⟩ := hrel
    have HZi := kp hzi
    have HB := kp hb
    have q2 := HC.out wr hb
    have HBw := kp (B0.out.trans (hb.mono B0.out.size))
    clear hzi hb
    by_cases hlt : k < l.length
    ·have hlt2 : (k : Int) < (l.length : Int) := by omega
     by_cases hzm : z < most
     ·have hzm' := decide_eq_true hzm
      have hy := List.getElem?_eq_getElem hlt
      have hym := List.getElem_mem hlt
      generalize l[k] = y at hy hym
      obtain ⟨b, o, A', c', rfl, hbl, e0, e1, e2, hr⟩ := sexp_cells (HL.out.on SexpR.lasts HBw.out) hy
      have HY := kp (fun W m (hW : Below wr.heap.size wr W) => IH.out y (by have h1 := HM.out y hym; have h2 := HX.out; omega) W A' c' m (SexpR.lasts _ _ _ _ hW hr))
      clear hr hy hym
      go_wp2_with fail
      refine (HY.out _ _ (Below.refl _ _)).mono ?_
      rintro e w2 ⟨⟨r, hri, rfl⟩, hb2⟩
      have HB2 := kp (HB.out.trans (hb2.mono HB.out.size))
      have HI2 := kp (I64_wrap (z + r))
      clear hb2
      go_wp2_with fail
      go_roundw
      case rel => exact ⟨k + 1, _, by omega, by go_num, rfl, HI2.out, HB2.out⟩
      case measure => simp [intOf]; omega
     ·have hzm' := decide_eq_false hzm
      have HS := kp (someInt HZi.out)
      go_wp2_with fail
      go_ret
      exact ⟨HS.out, HBw.out⟩
    ·have hge : decide ((k : Int) < (l.length : Int)) = false := decide_eq_false (by omega)
     have HS := kp (someInt HZi.out)
     go_wp2_with fail
     go_ret
     exact ⟨HS.out, HBw.out⟩

def GreatPost (P : Prop) (e : Ending) : Prop := ∃ b : Bool, e = .returned (.bool b) ∧ (b = false → P)
theorem great_yes {P : Prop} : GreatPost P (.returned (.bool true)) := ⟨true, rfl, fun h => by cases h⟩
theorem great_no {P : Prop} (b : Bool) (h : P) : GreatPost P (.returned (.bool b)) := ⟨b, rfl, fun _ => h⟩
theorem macro_cells {w W : World} {A : Option Addr} {l : List Macro} (h : Lies 6 MacroR w A l) (hb : Below w.heap.size w W) {k : Nat} {m : Macro} (hm : l[k]? = some m) :
  ∃ b o Ap cp Ab cb, A = some ⟨b, o, none⟩ ∧ W.cell? ⟨b, o + k * 6 + 1, none⟩ = some (.slice Ap m.params.length cp) ∧ W.cell? ⟨b, o + k * 6 + 3, none⟩ = some (.int .i8 m.body.kind) ∧ W.cell? ⟨b, o + k * 6 + 3 + 1, none⟩ = some (.string m.body.text) ∧ W.cell? ⟨b, o + k * 6 + 3 + 2, none⟩ = some (.slice Ab m.body.l.length cb) ∧
   SexpR W [.int .i8 m.body.kind, .string m.body.text, .slice Ab m.body.l.length cb] m.body ∧ m.params.length ≤ maxLen := by
 obtain ⟨b, o, vs, rfl, hbl, _, hcell, Ap, cp, bv, rfl, hsx, _, hpc, hcm, _⟩ := h.at' hm
 obtain ⟨Ab, cb, rfl, _⟩ := hsx.open'
 have e := fun j u (hu : _) => ((bcell hb).1 b (o + k * 6 + j) hbl).trans (hcell j u hu)
 exact ⟨b, o, Ap, cp, Ab, cb, rfl, e 1 _ rfl, e 3 _ rfl, e 4 _ rfl, e 5 _ rfl, SexpR.lasts _ _ _ _ hb hsx, by omega⟩
def Small (g : Sig) : Prop := g.sorts.length ≤ 20 ∧ g.funs.length ≤ 40 ∧ g.macros.length ≤ 40
set_option maxRecDepth 100000 in
set_option maxHeartbeats 3200000 in
theorem great4_any {w : World} {A1 A2 A3 : Option Addr} {c1 c2 c3 : Nat} {g : Sig} (h : SigAt w A1 c1 A2 c2 A3 c3 g) :
  Calls Tryz.prog 8 #[.agg #[.slice A1 g.sorts.length c1, .slice A2 g.funs.length c2, .slice A3 g.macros.length c3]] w fun e w' => GreatPost (Small g) e ∧ Below w.heap.size w w' := by
 have HMc := kp (fun W (hW : Below w.heap.size w W) k m (hm : g.macros[k]? = some m) => macro_cells h.macros hW hm)
 obtain ⟨g0, g1, g2⟩ := sig_cells w (.slice A1 g.sorts.length c1) (.slice A2 g.funs.length c2) (.slice A3 g.macros.length c3) 26
 have B0 := kp ((Below.refl w.heap.size w).alloc (Nat.le_refl _) (.cells #[.slice A1 g.sorts.length c1, .slice A2 g.funs.length c2, .slice A3 g.macros.length c3] 26))
 have hz : w.heap.size < (w.alloc (.cells #[.slice A1 g.sorts.length c1, .slice A2 g.funs.length c2, .slice A3 g.macros.length c3] 26)).heap.size := by simp
 have HSm := kp (show (g.sorts.length ≤ 20 ∧ g.funs.length ≤ 40 ∧ g.macros.length ≤ 40) → Small g from id)
 have HY := kp (great_yes (P := Small g))
 have HN := kp (fun b (h : Small g) => great_no (P := Small g) b h)
 clear h
 generalize hn1 : g.sorts.length = n1 at *
 generalize hn2 : g.funs.length = n2 at *
 generalize hn3 : g.macros.length = n3 at *
 by_cases h1 : (20 : Int) < (n1 : Int)
 ·have h1' := decide_eq_true h1
  go_enter Tryz.func8, Tryz.ntmps8
  go_wp2_with fail
  go_ret
  exact ⟨HY.out, B0.out⟩
 ·have h1' := decide_eq_false h1
  by_cases h2 : (40 : Int) < (n2 : Int)
  ·have h2' := decide_eq_true h2
   go_enter Tryz.func8, Tryz.ntmps8
   go_wp2_with fail
   go_ret
   exact ⟨HY.out, B0.out⟩
  ·have h2' := decide_eq_false h2
   by_cases h3 : (40 : Int) < (n3 : Int)
   ·have h3' := decide_eq_true h3
    go_enter Tryz.func8, Tryz.ntmps8
    go_wp2_with fail
    go_ret
    exact ⟨HY.out, B0.out⟩
   ·have h3' := decide_eq_false h3
    have HS := kp (HSm.out ⟨by omega, by omega, by omega⟩)
    go_enter Tryz.func8, Tryz.ntmps8
    go_wp2_with fail
    generalize w.alloc (.cells #[.slice A1 n1 c1, .slice A2 n2 c2, .slice A3 n3 c3] 26) = w1 at *
    have HC := kp (fun W (hW : Below w1.heap.size w1 W) => ((bcell hW).1 w.heap.size 2 hz).trans g2)
    clear g0 g1 g2 hz
    go_loopw [3, 4] (fun v i wr => ∃ (k : Nat) (z : Int), k ≤ n3 ∧ i = .int .i64 k ∧ v = .int .i64 z ∧ I64 z ∧ Below w1.heap.size w1 wr) (fun _ i _ => n3 - (intOf i).toNat)
    case atStart => exact ⟨0, 0, by omega, rfl, rfl, ⟨by omega, by omega⟩, Below.refl _ _⟩
    case round =>
     obtain ⟨k, z, hk, rfl, rfl, hzi, hb⟩ := hrel
     have HZi := kp hzi
     have HB := kp hb
     have q2 := HC.out wr hb
     have HBw := kp (B0.out.trans (hb.mono B0.out.size))
     clear hzi hb
     by_cases hlt : k < n3
     ·have hlt2 : (k : Int) < (n3 : Int) := by omega
      obtain ⟨m, hm⟩ : ∃ m, g.macros[k]? = some m := ⟨_, List.getElem?_eq_getElem (by omega)⟩
      obtain ⟨b, o, Ap, cp, Ab, cb, rfl, m1, m3, m4, m5, hsx, hpl⟩ := HMc.out wr HBw.out k m hm
      have HSz := kp (size_any _ m.body (Nat.lt_succ_self _) wr Ab cb 4000 hsx)
      have HMd := kp (fun W hW => HMc.out W hW k m hm)
      have hpl2 : (m.params.length : Int) ≤ 9223372036854775807 := by unfold maxLen at hpl; omega
      clear hm hsx hpl
      go_wp2_with fail
      refine HSz.out.mono ?_
      rintro e w2 ⟨⟨r, hri, rfl⟩, hb2⟩
      have HB2 := kp (HB.out.trans (hb2.mono HB.out.size))
      have HBw2 := kp (HBw.out.trans (hb2.mono HBw.out.size))
      have HI2 := kp (I64_wrap (z + r))
      obtain ⟨b', o', Ap', cp', _, _, hA, m1', _, _, _, _, _⟩ := HMd.out w2 HBw2.out
      have hA2 : b' = b ∧ o' = o := by simp at hA; exact ⟨hA.1.symm, hA.2.symm⟩
      obtain ⟨rfl, rfl⟩ := hA2
      have q3 := HC.out w2 HB2.out
      clear hb2 m1 m3 m4 m5 hA q2 hri
      by_cases hp : (20 : Int) < (m.params.length : Int)
      ·have hp' := decide_eq_true hp
       go_wp2_with fail
       go_ret
       exact ⟨HY.out, HBw2.out⟩
      ·have hp' := decide_eq_false hp
       go_wp2_with fail
       go_roundw
       case rel => exact ⟨k + 1, _, by omega, by go_num, rfl, HI2.out, HB2.out⟩
       case measure => simp [intOf]; omega
     ·obtain rfl : k = n3 := by omega
      have HR := kp (HN.out (decide (6000 < z)) HS.out)
      go_wp2_with fail
      all_goals
       go_ret
       exact ⟨HN.out _ HS.out, HBw.out⟩
end Go.Proofs.YtpmdcckapddchaaGreat.Gr
/- Numerals, in plain Lean. -/
namespace Go.Proofs.YtpmdcckapddchaaGreat
open Go.RowKit

theorem isNum_iff {l : List UInt8} : isNum l = true ↔ l ≠ [] ∧ (1 < l.length → l.getD 0 0 ≠ 48) ∧ (∀ c ∈ l, isDig c = true) := by
 unfold isNum
 cases l with
 | nil => simp
 | cons a l =>
  simp only [List.isEmpty_cons, Bool.not_false, Bool.true_and, Bool.and_eq_true, List.all_eq_true, Bool.not_eq_true', Bool.and_eq_false_iff, decide_eq_false_iff_not, beq_eq_false_iff_ne, ne_eq, reduceCtorEq, not_false_eq_true, true_and]
  constructor
  ·rintro ⟨h1, h2⟩; exact ⟨fun h => by rcases h1 with h1 | h1; exact absurd h h1; exact h1, h2⟩
  ·rintro ⟨h1, h2⟩
   refine ⟨?_, h2⟩
   by_cases h : 1 < (a :: l).length
   ·exact .inr (h1 h)
   ·exact .inl h
end Go.Proofs.YtpmdcckapddchaaGreat
/- Tokens, in plain Lean: what is left of a text, signs, names between bars. No program in sight. -/
namespace Go.Proofs.YtpmdcckapddchaaGreat.Dt
open Go.RowKit

def from_ (s : ByteArray) (k : Nat) : List UInt8 := (Lx.bs s).drop k
theorem from_at {s : ByteArray} {k : Nat} (hk : k < s.size) : from_ s k = s[k] :: from_ s (k + 1) := by
 unfold from_
 have h : k < (Lx.bs s).length := by rw [Lx.bs_length]; exact hk
 rw [List.drop_eq_getElem_cons h]
 congr 1
theorem from_end {s : ByteArray} {k : Nat} (hk : s.size ≤ k) : from_ s k = [] := by
 unfold from_
 exact List.drop_eq_nil_of_le (by rw [Lx.bs_length]; exact hk)
theorem from_len (s : ByteArray) (k : Nat) : (from_ s k).length = s.size - k := by unfold from_; rw [List.length_drop, Lx.bs_length]
def at_ (s : ByteArray) (l : List UInt8) : Nat := s.size - l.length
theorem from_of_suffix {s : ByteArray} {l : List UInt8} {k : Nat} (h : l <:+ from_ s k) : from_ s (at_ s l) = l ∧ at_ s l ≤ s.size ∧ (k ≤ s.size → k ≤ at_ s l) := by
 have hl := h.length_le
 rw [from_len] at hl
 have hs : l <:+ Lx.bs s := h.trans (List.drop_suffix _ _)
 have := suffix_drop hs
 rw [Lx.bs_length] at this
 refine ⟨this, Nat.sub_le _ _, fun hk => ?_⟩
 unfold at_
 omega
theorem at_from {s : ByteArray} {k : Nat} (hk : k ≤ s.size) : at_ s (from_ s k) = k := by unfold at_; rw [from_len]; omega
def skipP (s : ByteArray) (k : Nat) : Nat := at_ s (skipL false (from_ s k))
theorem skip_white {c : UInt8} {r : List UInt8} (h : Lx.whiteI (c.toNat : Int) = true) : skipL false (c :: r) = skipL false r := by rw [skipL, if_pos h]
theorem skip_semi {c : UInt8} {r : List UInt8} (h : Lx.whiteI (c.toNat : Int) = false) (h2 : (c.toNat : Int) = 59) : skipL false (c :: r) = skipL true (c :: r) := by
 have h3 : ¬ (c.toNat : Int) = 10 := by omega
 conv => lhs; rw [skipL, if_neg (by rw [h]; decide), if_pos h2]
 rw [skipL, if_neg h3]
theorem skip_stop {c : UInt8} {r : List UInt8} (h : Lx.whiteI (c.toNat : Int) = false) (h2 : ¬ (c.toNat : Int) = 59) : skipL false (c :: r) = c :: r := by rw [skipL, h, if_neg (by decide), if_neg h2]
def runN (s : ByteArray) (k : Nat) : Nat := ((from_ s k).takeWhile sgn).length
theorem runN_more {s : ByteArray} {k : Nat} (hk : k < s.size) (h : Lx.signI (s[k].toNat : Int) = true) : runN s k = runN s (k + 1) + 1 := by
 unfold runN
 rw [from_at hk, List.takeWhile_cons, show sgn s[k] = true from h, if_pos rfl, List.length_cons]
theorem runN_stop {s : ByteArray} {k : Nat} (hk : k < s.size) (h : Lx.signI (s[k].toNat : Int) = false) : runN s k = 0 := by
 unfold runN
 rw [from_at hk, List.takeWhile_cons, show sgn s[k] = false from h]
 rfl
theorem runN_end {s : ByteArray} {k : Nat} (hk : s.size ≤ k) : runN s k = 0 := by
 unfold runN
 rw [from_end hk]
 rfl
theorem runN_le (s : ByteArray) (k : Nat) : runN s k ≤ s.size - k := by
 unfold runN
 rw [← from_len]
 exact (List.takeWhile_prefix _).length_le
theorem num_parts {s : ByteArray} (h : isNum (Lx.bs s) = true) : (∀ k (hk : k < s.size), Lx.digitI (s[k].toNat : Int) = true) ∧ (s.toList.isEmpty = false) ∧ 0 < s.size ∧ ((s.toList == [48]) = false → ∀ h : 0 < s.size, ((s[0].toNat : Int) == 48) = false) := by
 obtain ⟨h1, h2, h3⟩ := isNum_iff.1 h
 have hz : 0 < s.size := by rw [← Lx.bs_length]; exact List.length_pos_iff.2 h1
 refine ⟨fun k hk => ?_, ?_, hz, fun h4 h5 => ?_⟩
 ·have := h3 _ (Lx.bs_mem hk)
  unfold isDig at this
  exact this
 ·rw [Lx.bs_toList]
  cases hb : Lx.bs s with
  | nil => exact absurd hb h1
  | cons a b => rfl
 ·rw [Lx.bs_toList] at h4
  have h6 : Lx.bs s = s[0] :: from_ s 1 := by have := from_at hz; unfold from_ at this; rw [List.drop_zero] at this; exact this
  rw [beq_eq_false_iff_ne]
  intro h7
  have h8 : s[0] = 48 := by apply UInt8.toNat_inj.1; show s[0].toNat = 48; omega
  by_cases h9 : 1 < (Lx.bs s).length
  ·have := h2 h9
   rw [h6] at this
   simp at this
   exact this h8
  ·have h10 : (from_ s 1) = [] := by rw [← List.length_eq_zero_iff]; rw [h6, List.length_cons] at h9; omega
   rw [h6, h10, h8] at h4
   simp at h4
theorem extract_from (s : ByteArray) (i j : Nat) : s.extract i j = ⟨((from_ s i).take (j - i)).toArray⟩ := by
 apply Lx.bs_inj.1
 rw [Lx.bs_mk]
 unfold Lx.bs from_ Lx.bs
 simp
theorem take_run (s : ByteArray) (j : Nat) : (from_ s j).takeWhile sgn = (from_ s j).take (runN s j) := List.prefix_iff_eq_take.1 (List.takeWhile_prefix _)
theorem extract_run (s : ByteArray) (j : Nat) : s.extract j (j + runN s j) = ⟨((from_ s j).takeWhile sgn).toArray⟩ := by
 rw [extract_from, take_run, show j + runN s j - j = runN s j by omega]
theorem at_run {s : ByteArray} {j : Nat} (hj : j ≤ s.size) : at_ s ((from_ s j).dropWhile sgn) = j + runN s j := by
 have h := congrArg List.length (List.takeWhile_append_dropWhile (p := sgn) (l := from_ s j))
 rw [List.length_append, from_len] at h
 unfold at_
 have h2 := runN_le s j
 unfold runN at *
 omega
def TokPost (w : World) (k : Int) (t : List UInt8) (a b : Nat) (e : Ending) (w' : World) : Prop :=
 e = .returned (.tuple #[.agg #[.int .i8 k, .string ⟨t.toArray⟩, .int .i64 a, .int .i64 b], .bool true, .int .i64 0]) ∧ Below w.heap.size w w'
theorem skip_none : ∀ {l : List UInt8}, Lib.indexByte l 10 = -1 → skipL true l = []
 | [], _ => rfl
 | c :: r, h => by
  unfold Lib.indexByte at h
  have hge := Lib.indexByte_ge r 10
  by_cases hc : (c == 10) = true
  ·rw [if_pos hc] at h; cases h
  ·rw [if_neg hc] at h
   have h1 : ¬ (c.toNat : Int) = 10 := fun e => hc (by rw [beq_iff_eq]; apply UInt8.toNat_inj.1; show c.toNat = 10; omega)
   rw [skipL, if_neg h1]
   refine skip_none ?_
   by_cases h2 : (Lib.indexByte r 10 == -1) = true
   ·simpa using h2
   ·rw [if_neg h2] at h; omega
theorem skip_some : ∀ {l : List UInt8} {o : Nat}, Lib.indexByte l 10 = o → skipL true l = skipL false (l.drop (o + 1))
 | [], o, h => by simp [Lib.indexByte] at h
 | c :: r, o, h => by
  unfold Lib.indexByte at h
  have hge := Lib.indexByte_ge r 10
  by_cases hc : (c == 10) = true
  ·rw [if_pos hc] at h
   obtain rfl : o = 0 := by omega
   have h1 : (c.toNat : Int) = 10 := by rw [beq_iff_eq] at hc; subst hc; rfl
   rw [skipL, if_pos h1]; rfl
  ·rw [if_neg hc] at h
   have h1 : ¬ (c.toNat : Int) = 10 := fun e => hc (by rw [beq_iff_eq]; apply UInt8.toNat_inj.1; show c.toNat = 10; omega)
   by_cases h2 : (Lib.indexByte r 10 == -1) = true
   ·rw [if_pos h2] at h; omega
   ·rw [if_neg h2] at h
    obtain ⟨o', rfl⟩ : ∃ o', o = o' + 1 := ⟨o - 1, by
     have h3 : ¬ Lib.indexByte r 10 = -1 := by simpa using h2
     omega⟩
    rw [skipL, if_neg h1, skip_some (o := o') (by omega)]
    rfl
theorem quoted_index : ∀ {l n t : List UInt8}, quotedL l = some (n, t) → Lib.indexByte l 124 = n.length ∧ l.take n.length = n ∧ l.drop (n.length + 1) = t ∧ n.length < l.length ∧ (n.all fun c => Lx.insideI c.toNat) = true := by
 intro l n t h
 obtain ⟨rfl, hall⟩ := quotedL_split h
 refine ⟨?_, by simp, ?_, by simp, hall⟩
 ·clear h
  induction n with
  | nil => simp [Lib.indexByte]
  | cons c n ih =>
   rw [List.all_cons, Bool.and_eq_true] at hall
   have hc : ¬ (c == 124) = true := by
    intro e
    rw [beq_iff_eq] at e
    subst e
    exact absurd hall.1 (by decide)
   rw [List.cons_append]
   unfold Lib.indexByte
   rw [if_neg hc, ih hall.2, if_neg (by rw [beq_iff_eq]; omega)]
   simp
 ·rw [show n.length + 1 = (n ++ [124]).length by simp, show n ++ 124 :: t = (n ++ [124]) ++ t by simp, List.drop_left]
theorem drop_from (s : ByteArray) (p : Nat) : (s.extract p s.size).data.toList = from_ s p := by
 have h := extract_from s p s.size
 rw [h]
 show (List.take (s.size - p) (from_ s p)) = _
 exact List.take_of_length_le (by rw [from_len]; exact Nat.le_refl _)
end Go.Proofs.YtpmdcckapddchaaGreat.Dt
/- Reading an expression: what of it holds of any reader. No program in sight. -/
namespace Go.Proofs.YtpmdcckapddchaaGreat.Dt
open Go.RowKit

abbrev SxB := Sexp × Option Addr × Nat
def sxV (y : SxB) : List Value := [.int .i8 y.1.kind, .string y.1.text, .slice y.2.1 y.1.l.length y.2.2]
def sxOk (w : World) (y : SxB) : Prop := SexpR w (sxV y) y.1
theorem sxV_len (y : SxB) : (sxV y).length = 3 := rfl
theorem Rd.shorter {l r : List UInt8} {x : Sexp} (h : Rd l x r) : r.length < l.length := by
 have hsk : ∀ {l : List UInt8} {k : Int} {t r : List UInt8}, nextL (skipL false l) = .tok k t r → r.length < l.length := fun {l k t r} h => by
  have h1 := (nextL_suffix h).2
  have h2 := (skipL_suffix false l).length_le
  omega
 induction h with
 | name h hs => exact hsk h
 | num h hs => exact hsk h
 | key h hs => exact hsk h
 | @list l r rest xs f h h0 hc hx hn ih =>
  have hstep : ∀ k, k ≤ xs.length → (f k).length ≤ r.length := by
   intro k
   induction k with
   | zero => intro _; rw [h0]; exact Nat.le_refl _
   | succ k ihk => intro hk; have h1 := ih k xs[k] (List.getElem?_eq_getElem (by omega)); have h2 := ihk (by omega); omega
  have h1 := hsk h
  have h2 := hsk hn
  have h3 := hstep xs.length (Nat.le_refl _)
  omega
def ReadPost (w : World) (x : Sexp) (b : Nat) (e : Ending) (w' : World) : Prop :=
 ∃ A c, e = .returned (.tuple #[.agg #[.int .i8 x.kind, .string x.text, .slice A x.l.length c], .int .i64 b, .int .i64 0]) ∧ InOk sxOk w.heap.size w'.heap.size w' (x, A, c) ∧ Below w.heap.size w w'
def set3' (w : World) (b : Nat) (v0 v1 v2 : Value) : World := ((w.setCell ⟨b, 0, none⟩ v0).setCell ⟨b, 1, none⟩ v1).setCell ⟨b, 2, none⟩ v2
theorem set3'_at {w : World} {b : Nat} {a0 a1 a2 : Value} {t : TypeId} (h : w.heap[b]? = some (.cells #[a0, a1, a2] t (0, 0))) (v0 v1 v2 : Value) : (set3' w b v0 v1 v2).heap[b]? = some (.cells #[v0, v1, v2] t (0, 0)) := by
 simp [set3', World.setCell, Array.getElem?_modify, h]
theorem set3'_keeps {S : Nat → Prop} {w w' : World} (h : Keeps S w w') {b : Nat} (hb : S b ∨ w.heap.size ≤ b) (v0 v1 v2 : Value) : Keeps S w (set3' w' b v0 v1 v2) :=
 ((h.setCell (p := ⟨b, 0, none⟩) hb v0).setCell (p := ⟨b, 1, none⟩) hb v1).setCell (p := ⟨b, 2, none⟩) hb v2
theorem set3'_below {B b : Nat} {w0 w : World} (h : Below B w0 w) (hb : B ≤ b) (v0 v1 v2 : Value) : Below B w0 (set3' w b v0 v1 v2) :=
 ((h.setCell (p := ⟨b, 0, none⟩) hb v0).setCell (p := ⟨b, 1, none⟩) hb v1).setCell (p := ⟨b, 2, none⟩) hb v2
theorem nextL_text {l : List UInt8} {k : Int} {t r : List UInt8} (h : nextL l = .tok k t r) : t.length ≤ 100 := by
 cases l with
 | nil => unfold nextL at h; cases h
 | cons c l =>
  rw [nextL_cons] at h
  split at h
  ·simp only [Tk.tok.injEq] at h; obtain ⟨_, rfl, _⟩ := h; simp
  split at h
  ·simp only [Tk.tok.injEq] at h; obtain ⟨_, rfl, _⟩ := h; simp
  split at h
  ·split at h
   ·split at h
    ·rename_i h1
     simp only [Tk.tok.injEq] at h; obtain ⟨_, rfl, _⟩ := h; exact h1
    ·cases h
   ·cases h
  split at h
  ·split at h
   ·cases h
   ·simp only [Tk.tok.injEq] at h; obtain ⟨_, rfl, _⟩ := h; omega
  split at h
  ·cases h
  ·rename_i h1
   split at h
   ·split at h
    ·simp only [Tk.tok.injEq] at h; obtain ⟨_, rfl, _⟩ := h; omega
    ·cases h
   ·simp only [Tk.tok.injEq] at h; obtain ⟨_, rfl, _⟩ := h; omega
theorem Rd.next {l r : List UInt8} {x : Sexp} (h : Rd l x r) : ∃ k t q, nextL (skipL false l) = .tok k t q := by
 cases h with
 | name h hs => exact ⟨_, _, _, h⟩
 | num h hs => exact ⟨_, _, _, h⟩
 | key h hs => exact ⟨_, _, _, h⟩
 | list f h h0 hc hx hn => exact ⟨_, _, _, h⟩
theorem shape_own {w : World} {base s n : Nat} {t : TypeId} {v : Value} {vals : List Value} (ho : w.ownsRow base t s v n vals) : ∃ A c, v = .slice A n c := by
 rcases ho.2 with ⟨h1, h2⟩ | ⟨g, cap, cur, h1, _⟩
 ·exact ⟨none, 0, by rw [h2]; exact h1⟩
 ·exact ⟨_, cap, h1⟩
end Go.Proofs.YtpmdcckapddchaaGreat.Dt
/- The three texts that every statement of the layer looks at: how they are read, and what they are made to. No program in sight. -/
namespace Go.Proofs.YtpmdcckapddchaaGreat.El
open Go.RowKit Go.Proofs.YtpmdcckapddchaaGreat.Dt Go.Proofs.YtpmdcckapddchaaGreat.Sg

inductive RdAll : List UInt8 → List Sexp → List UInt8 → Prop
 | nil {l rest : List UInt8} (h : nextL (skipL false l) = .tok 1 [] rest) : RdAll l [] rest
 | cons {l m rest : List UInt8} {x : Sexp} {xs : List Sexp} (hc : ∀ t q, nextL (skipL false l) ≠ .tok 1 t q) (hx : Rd l x m) (hr : RdAll m xs rest) : RdAll l (x :: xs) rest
theorem RdAll.places {l rest : List UInt8} {xs : List Sexp} (h : RdAll l xs rest) : ∃ f : Nat → List UInt8, f 0 = l ∧ (∀ i, i < xs.length → ∀ t q, nextL (skipL false (f i)) ≠ .tok 1 t q) ∧ (∀ i x, xs[i]? = some x → Rd (f i) x (f (i + 1))) ∧ nextL (skipL false (f xs.length)) = .tok 1 [] rest := by
 induction h with
 | @nil l rest h => exact ⟨fun _ => l, rfl, fun i hi => by simp at hi, fun i x hx => by simp at hx, h⟩
 | @cons l m rest x xs hc hx hr ih =>
  obtain ⟨f, h0, h1, h2, h3⟩ := ih
  refine ⟨fun i => match i with | 0 => l | j + 1 => f j, rfl, fun i hi => ?_, fun i y hy => ?_, h3⟩
  ·cases i with
   | zero => exact hc
   | succ j => exact h1 j (by simp at hi; omega)
  ·cases i with
   | zero =>
    obtain rfl : x = y := by simpa using hy
    show Rd l x (f 0)
    rw [h0]; exact hx
   | succ j => exact h2 j y (by simpa using hy)
theorem Rd.of_all {l r rest : List UInt8} {xs : List Sexp} (h : nextL (skipL false l) = .tok 0 [] r) (ha : RdAll r xs rest) : Rd l (.mk 3 { data := #[] } xs) rest := by
 obtain ⟨f, h0, h1, h2, h3⟩ := ha.places
 exact .list f h h0 h1 h2 h3
def bX : ByteArray := { data := #[120] }
def bY : ByteArray := { data := #[121] }
def bF : ByteArray := { data := #[102] }
def bP : ByteArray := { data := #[112] }
def bS : ByteArray := { data := #[115] }
def b3 : ByteArray := { data := #[51] }
def smallG : Sig := ⟨[{ data := #[83] }], [⟨bX, 0, 0, 0, 0, 1⟩, ⟨bY, 0, 0, 0, 0, 1⟩, ⟨bF, 1, 1, 0, 0, 1⟩, ⟨bP, 0, 0, 0, 0, 0⟩, ⟨bS, 0, 0, 0, 0, 2⟩], []⟩
def txA : ByteArray := { data := #[40, 60, 61, 32, 40, 45, 32, 120, 32, 121, 41, 32, 51, 41] }
def txB : ByteArray := { data := #[40, 100, 105, 115, 116, 105, 110, 99, 116, 32, 120, 32, 121, 41] }
def txC : ByteArray := { data := #[40, 43, 32, 120, 32, 121, 41] }
def xA : Sexp := .mk 3 { data := #[] } [symX sLe, .mk 3 { data := #[] } [symX sMinus, symX bX, symX bY], .mk 1 b3 []]
def xB : Sexp := .mk 3 { data := #[] } [symX sDistinct, symX bX, symX bY]
def xC : Sexp := .mk 3 { data := #[] } [symX sPlus, symX bX, symX bY]
theorem not_close {l : List UInt8} {k : Int} {t r : List UInt8} (h : nextL (skipL false l) = .tok k t r) (hk : k ≠ 1) : ∀ t q, nextL (skipL false l) ≠ .tok 1 t q := by
 intro t q e
 rw [h] at e
 simp only [Tk.tok.injEq] at e
 exact hk e.1
theorem RdAll.sym {l t r rest : List UInt8} {s : ByteArray} {xs : List Sexp} (h : nextL (skipL false l) = .tok 2 t r) (hs : Lx.bs s = t) (hr : RdAll r xs rest) : RdAll l (symX s :: xs) rest := .cons (not_close h (by decide)) (.name h hs) hr
theorem rdA : Rd (from_ txA 0) xA [] := by
 refine Rd.of_all (r := [60, 61, 32, 40, 45, 32, 120, 32, 121, 41, 32, 51, 41]) (by kernel_rfl) ?_
 refine RdAll.sym (t := [60, 61]) (r := [32, 40, 45, 32, 120, 32, 121, 41, 32, 51, 41]) (by kernel_rfl) (by kernel_rfl) ?_
 refine .cons (m := [32, 51, 41]) (not_close (k := 0) (t := []) (r := [45, 32, 120, 32, 121, 41, 32, 51, 41]) (by kernel_rfl) (by decide)) ?_ ?_
 ·refine Rd.of_all (r := [45, 32, 120, 32, 121, 41, 32, 51, 41]) (by kernel_rfl) ?_
  refine RdAll.sym (t := [45]) (r := [32, 120, 32, 121, 41, 32, 51, 41]) (by kernel_rfl) (by kernel_rfl) ?_
  refine RdAll.sym (t := [120]) (r := [32, 121, 41, 32, 51, 41]) (by kernel_rfl) (by kernel_rfl) ?_
  refine RdAll.sym (t := [121]) (r := [41, 32, 51, 41]) (by kernel_rfl) (by kernel_rfl) ?_
  exact .nil (by kernel_rfl)
 ·refine .cons (m := [41]) (not_close (k := 3) (t := [51]) (r := [41]) (by kernel_rfl) (by decide)) (.num (t := [51]) (by kernel_rfl) (by kernel_rfl)) ?_
  exact .nil (by kernel_rfl)
theorem rdB : Rd (from_ txB 0) xB [] := by
 refine Rd.of_all (r := [100, 105, 115, 116, 105, 110, 99, 116, 32, 120, 32, 121, 41]) (by kernel_rfl) ?_
 refine RdAll.sym (t := [100, 105, 115, 116, 105, 110, 99, 116]) (r := [32, 120, 32, 121, 41]) (by kernel_rfl) (by kernel_rfl) ?_
 refine RdAll.sym (t := [120]) (r := [32, 121, 41]) (by kernel_rfl) (by kernel_rfl) ?_
 refine RdAll.sym (t := [121]) (r := [41]) (by kernel_rfl) (by kernel_rfl) ?_
 exact .nil (by kernel_rfl)
theorem rdC : Rd (from_ txC 0) xC [] := by
 refine Rd.of_all (r := [43, 32, 120, 32, 121, 41]) (by kernel_rfl) ?_
 refine RdAll.sym (t := [43]) (r := [32, 120, 32, 121, 41]) (by kernel_rfl) (by kernel_rfl) ?_
 refine RdAll.sym (t := [120]) (r := [32, 121, 41]) (by kernel_rfl) (by kernel_rfl) ?_
 refine RdAll.sym (t := [121]) (r := [41]) (by kernel_rfl) (by kernel_rfl) ?_
 exact .nil (by kernel_rfl)
def ansB (o : List Node × Int × Int) (p : Node → Bool) : Bool := decide (o.2.2 = 0) && decide (0 ≤ o.2.1) && (match o.1[o.2.1.toNat]? with | some n => p n | none => false)
theorem ansB_out {o : List Node × Int × Int} {p : Node → Bool} (h : ansB o p = true) : o.2.2 = 0 ∧ ∃ k : Nat, o.2.1 = k ∧ ∃ n, o.1[k]? = some n ∧ p n = true := by
 unfold ansB at h
 simp only [Bool.and_eq_true, decide_eq_true_eq] at h
 obtain ⟨⟨h1, h2⟩, h3⟩ := h
 obtain ⟨k, hk⟩ := Int.eq_ofNat_of_zero_le h2
 rw [hk] at h3
 refine ⟨h1, k, hk, ?_⟩
 cases hn : o.1[k]? with
 | none => simp [hn] at h3
 | some n => exact ⟨n, rfl, by simpa [hn] using h3⟩
set_option maxRecDepth 100000 in
theorem ansA : ansB (termO smallG newT xA 200) (fun n => decide (n.op = 12) && decide (n.n = 3)) = true := by decide +kernel
set_option maxRecDepth 100000 in
theorem ansBd : ansB (termO smallG newT xB 200) (fun n => decide (n.op = 1)) = true := by decide +kernel
set_option maxRecDepth 100000 in
theorem ansC : (termO smallG newT xC 200).2.2 = 34 := by decide +kernel
end Go.Proofs.YtpmdcckapddchaaGreat.El
