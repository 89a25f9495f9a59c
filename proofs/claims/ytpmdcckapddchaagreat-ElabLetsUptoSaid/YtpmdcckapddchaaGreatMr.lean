import Derived.Test.YtpmdcckapddchaaGreatShort
import Derived.Test.YtpmdcckapddchaaGreatMo
import Derived.Test.YtpmdcckapddchaaGreatMq
import Derived.Test.YtpmdcckapddchaaGreatMl
import Derived.Test.YtpmdcckapddchaaGreatMd
import Derived.Test.YtpmdcckapddchaaGreatMe
import Derived.Deep.RegionHeld3
import Derived.Deep.Cut
import Derived.Test.YtpmdcckapddchaaGreatMh
/- merged by wip/merge.py from: ElApply ElFind -/
/- A function of arguments, if each is told of. -/
namespace Go.Proofs.YtpmdcckapddchaaGreat.El
open Go.RowKit Go.Maps Go.Proofs.YtpmdcckapddchaaGreat.Dt Go.Proofs.YtpmdcckapddchaaGreat.Sg

theorem checkB_of {g : Sig} (h : checkE g = 0) : checkB g = true := by
 cases hb : checkB g with
 | true => rfl
 | false => rw [checkE_false hb] at h; cases h
theorem allTo_get {p : Nat → Bool} {n k : Nat} (h : allTo p n = true) (hk : k < n) : p k = true := by
 cases hp : p k with
 | true => rfl
 | false => rw [allTo_stop hk hp] at h; cases h
theorem sig_lens {g : Sig} (h : checkE g = 0) : g.sorts.length ≤ 4 ∧ g.funs.length ≤ 12 ∧ g.macros.length ≤ 12 := by
 have := checkB_of h
 unfold checkB at this
 simp only [Bool.and_eq_true, decide_eq_true_eq] at this
 exact ⟨this.1.1.1, this.1.1.2, this.1.2⟩
theorem fun_small {g : Sig} (h : checkE g = 0) {i : Nat} {f : Fun4} (hf : g.funs[i]? = some f) : funB g.sorts.length f = true := by
 have := checkB_of h
 unfold checkB at this
 simp only [Bool.and_eq_true] at this
 have h1 := allTo_get this.2.1.2 (List.getElem?_eq_some_iff.1 hf).1
 unfold funOk at h1
 rw [hf] at h1
 simp only [Bool.and_eq_true] at h1
 exact h1.2
theorem mac_small {g : Sig} (h : checkE g = 0) {i : Nat} {m : Macro} (hm : g.macros[i]? = some m) : macroB g.sorts.length m = true := by
 have := checkB_of h
 unfold checkB at this
 simp only [Bool.and_eq_true] at this
 have h1 := allTo_get this.2.2 (List.getElem?_eq_some_iff.1 hm).1
 unfold macOk at h1
 rw [hm] at h1
 simp only [Bool.and_eq_true] at h1
 exact h1.2
theorem node_set {op ln srt fn n : Int} {l : List V} {k : Nat} {v : V} (hk : k < 3) (hv : l[k]? = some v) :
  #[Value.int .i8 op, .int .i8 ln, .int .i64 (argK l k 0), .int .i64 (argK l k 1), .int .i64 (argK l k 2), .int .i64 srt, .int .i64 fn, .int .i64 n].setIfInBounds (2 + k) (.int .i64 v.2) =
  #[Value.int .i8 op, .int .i8 ln, .int .i64 (argK l (k + 1) 0), .int .i64 (argK l (k + 1) 1), .int .i64 (argK l (k + 1) 2), .int .i64 srt, .int .i64 fn, .int .i64 n] := by
 have hn : nthN l k = v.2 := by unfold nthN; rw [List.getD_eq_getElem?_getD, hv]; rfl
 have hc : k = 0 ∨ k = 1 ∨ k = 2 := by omega
 rcases hc with rfl | rfl | rfl <;> simp [argK, hn]
def sortStep (v : V) (s : Int) (st : St) : St := if st.e = 0 ∧ v.1 ≠ s then { st with e := 33 } else st
theorem sortsM_step {vs : List V} {v : V} {k : Nat} {f : Fun4} {st : St} (hk : k < 3) (hv : vs[k]? = some v) : sortsM (vs.drop k) ([f.a0, f.a1, f.a2].drop k) st = sortsM (vs.drop (k + 1)) ([f.a0, f.a1, f.a2].drop (k + 1)) (sortStep v (Fun4.arg f k) st) := by
 have hlt := (List.getElem?_eq_some_iff.1 hv).1
 rw [List.getElem?_eq_getElem hlt] at hv
 have hd : vs.drop k = v :: vs.drop (k + 1) := by rw [List.drop_eq_getElem_cons hlt]; simp at hv; rw [hv]
 rw [hd]
 have hc : k = 0 ∨ k = 1 ∨ k = 2 := by omega
 rcases hc with rfl | rfl | rfl <;> rfl
set_option maxRecDepth 100000 in
set_option maxHeartbeats 12800000 in
theorem apply_any {F : Fix} (hF : FixOk F) {known : Nat} {l : List Sexp} (hT : ∀ y ∈ l, TermC F known y) {w : World} {st : St} {At : Option Addr} {ct : Nat} (hm : Mk F w known st At ct) {fi : Nat} {f : Fun4} (hf : F.c.g.funs[fi]? = some f) {A : Option Addr} (c : Nat) (hl : Lies 3 SexpR F.W0 A l) (hll : l.length ≤ 3000000) {p : Option Addr} {env : Env} (he : EnvS F w p env) :
  Calls Tryz.prog 84 #[.pointer (some ⟨F.mb, 0, none⟩), .int .i64 (fi : Int), .slice A l.length c, .pointer p] w (MkPost F known w st.t At (applyM F.c (fun y => termP F.c known y env) f fi l st).1 (applyM F.c (fun y => termP F.c known y env) f fi l st).2) := by
 have HL := kp hl
 have HE := kp he
 have hlt := hm.lt
 have D1 := kp (Mid.new hm)
 generalize hr : (fun y => termP F.c known y env) = r
 have HS := kp (show applyM F.c r f fi l st = if (l.length : Int) ≠ f.len then (v0, failS 30 st)
  else putM F.c ⟨13, f.len, nthN (allM r l st).1 0, nthN (allM r l st).1 1, nthN (allM r l st).1 2, f.res, fi, 0⟩ (sortsM (allM r l st).1 [f.a0, f.a1, f.a2] (allM r l st).2) from rfl)
 have HAl := kp (fun (W : World) (A' : Option Addr) (c' : Nat) (h : Mid F known w st.t At w.heap.size W st A' c') => show Calls Tryz.prog 82 #[.pointer (some ⟨F.mb, 0, none⟩), .slice A l.length c, .pointer p] W (AllPost F known W st.t A' (allM r l st).1 (allM r l st).2) by
  have := all_any hF hT h.maker c hl hll (he.on h.keeps)
  rwa [hr] at this)
 have HVl := kp (allM_len r l st)
 have hfb := fun_small hF.ok hf
 obtain ⟨hl1, hl2, hl3⟩ := sig_lens hF.ok
 have hfl : 0 ≤ f.len ∧ f.len ≤ 3 := by
  unfold funB at hfb
  simp only [Bool.and_eq_true, decide_eq_true_eq] at hfb
  exact hfb.1.1.1.1
 obtain ⟨fb, fo, hA2, hfat, hfi⟩ := fun_get hF.sig.funs hf
 have hflt : (fi : Int) < (F.c.g.funs.length : Int) := by have := (List.getElem?_eq_some_iff.1 hf).1; omega
 have hfi2 : (fi : Int) ≤ 12 := by omega
 have HFA := kp (fun W (hW : Below F.W0.heap.size F.W0 W) => hfat.on hW)
 have HFI := kp hfi
 have hA2' := hA2
 clear hm hl he hT hfb hfat hfi hr hf
 generalize applyM F.c r f fi l st = res at *
 generalize allM r l st = al at *
 go_enter Tryz.func84, Tryz.ntmps84
 go_upto_region 1 with fail
 generalize w.alloc (.cells #[.int .i64 0, .int .i64 0] 69) = w1 at *
 have hblk := D1.out.maker.blk
 rw [hA2] at hblk
 obtain ⟨m0, m1, m2, m3, m4, m5, m6, m7, m8, mf⟩ := Bk.c9 hblk
 obtain ⟨hfl0, f0, f1, f2, f3, f4, f5⟩ := HFA.out w1 D1.out.maker.below
 by_cases h1 : (l.length : Int) = f.len
 ·have g1 : ((l.length : Int) != f.len) = false := by rw [h1]; simp
  replace HS := kp (HS.out.trans (if_neg (fun h => h h1)))
  have hl3' : l.length ≤ 3 := by omega
  have hcv : IntKind.i8.wrap f.len = f.len := IntWalk.i8_in _ (by omega)
  have HLn := kp h1
  clear h1
  go_upto_region 4 with fail
  clear m0 m1 m2 m3 m4 m5 m6 m7 m8 mf f0 f1 f2 f3 f4 f5 hblk
  go_cut [10] from 29 to 39 (fun v10 W => ∃ xb, v10 = .pointer (some ⟨xb, 0, none⟩) ∧ W.heap[xb]? = some (.cells #[.int .i8 13, .int .i8 f.len, .int .i64 0, .int .i64 0, .int .i64 0, .int .i64 f.res, .int .i64 (fi : Int), .int .i64 0] 55 (0, 0)) ∧ w1.heap.size ≤ xb ∧ Below w1.heap.size w1 W)
  case first =>
   have B0 := kp (Below.refl w1.heap.size w1).drew
   have HFw := kp (fun W (hW : Below w1.heap.size w1 W) => HFA.out W (D1.out.below hW).maker.below)
   refine wp_region_held_drew (S := fun W => Below w1.heap.size w1 W) (by kernel_rfl) (B0.out) (fun hHeld => ?_)
   refine tk 0 (v := ?_) ?_ ?_
   rotate_left
   ·(intro w hSw; go_simp; try with_reducible rfl)
   try simp only [pt]
   refine tk 1 (v := ?_) ?_ ?_
   rotate_left
   ·(intro w hSw; go_simp; try with_reducible rfl)
   try simp only [pt]
   refine tk 2 (v := ?_) ?_ ?_
   rotate_left
   ·(intro w hSw; go_simp; try with_reducible rfl)
   try simp only [pt]
   refine tk 3 (v := ?_) ?_ ?_
   rotate_left
   ·(intro w hSw; (obtain ⟨hfl0, f0, f1, f2, f3, f4, f5⟩ := HFw.out _ hSw; go_simp; try with_reducible rfl))
   try simp only [pt]
   refine tk 4 (v := ?_) ?_ ?_
   rotate_left
   ·(intro w hSw; go_simp; try with_reducible rfl)
   try simp only [pt]
   refine tk 5 (v := ?_) ?_ ?_
   rotate_left
   ·(intro w hSw; go_simp; try with_reducible rfl)
   try simp only [pt]
   refine tk 6 (v := ?_) ?_ ?_
   rotate_left
   ·(intro w hSw; go_simp; try with_reducible rfl)
   try simp only [pt]
   refine tk 7 (v := ?_) ?_ ?_
   rotate_left
   ·(intro w hSw; go_simp; try with_reducible rfl)
   try simp only [pt]
   refine tk 8 (v := ?_) ?_ ?_
   rotate_left
   ·(intro w hSw; go_simp; try with_reducible rfl)
   try simp only [pt]
   refine tk 9 (v := ?_) ?_ ?_
   rotate_left
   ·(intro w hSw; (obtain ⟨hfl0, f0, f1, f2, f3, f4, f5⟩ := HFw.out _ hSw; go_simp; try with_reducible rfl))
   try simp only [pt]
   refine tk 10 (v := ?_) ?_ ?_
   rotate_left
   ·(intro w hSw; go_simp; try with_reducible rfl)
   try simp only [pt]
   generalize hwd : World.drew _ = wd at *
   clear hwd
   have BA := kp (B0.out.alloc B0.out.size (.cells #[.int .i8 0, .int .i8 0, .int .i64 0, .int .i64 0, .int .i64 0, .int .i64 0, .int .i64 0, .int .i64 0] 55))
   have XA := kp (Bk.new wd (.cells #[.int .i8 0, .int .i8 0, .int .i64 0, .int .i64 0, .int .i64 0, .int .i64 0, .int .i64 0, .int .i64 0] 55))
   have hxs := B0.out.size
   refine rd 11 fun K hK => ?_
   go_simp
   refine hK.out _ _ (BA.out) (fun hHeld => ?_)
   clear hK K
   try simp only [pt]
   generalize wd.alloc (.cells #[.int .i8 0, .int .i8 0, .int .i64 0, .int .i64 0, .int .i64 0, .int .i64 0, .int .i64 0, .int .i64 0] 55) = wa at *
   generalize wd.heap.size = xb at *
   obtain ⟨x0, x1, x2, x3, x4, x5, x6, x7, xf⟩ := Bk.c8 XA.out
   have BC := kp ((((((((BA.out.setCell (p := ⟨xb, 0, none⟩) hxs (.int .i8 13)).setCell (p := ⟨xb, 1, none⟩) hxs (.int .i8 f.len)).setCell (p := ⟨xb, 2, none⟩) hxs (.int .i64 0)).setCell (p := ⟨xb, 3, none⟩) hxs (.int .i64 0)).setCell (p := ⟨xb, 4, none⟩) hxs (.int .i64 0)).setCell (p := ⟨xb, 5, none⟩) hxs (.int .i64 f.res)).setCell (p := ⟨xb, 6, none⟩) hxs (.int .i64 (fi : Int))).setCell (p := ⟨xb, 7, none⟩) hxs (.int .i64 0))
   refine rd 12 fun K hK => ?_
   go_simp
   refine hK.out _ _ (BC.out) (fun hHeld => ?_)
   clear hK K
   try simp only [pt]
   refine wpAnyH_done (by kernel_rfl) ?_ _
   go_wp2_with fail
   go_meet
   exact ⟨_, rfl, Bk.set_at (Bk.set_at (Bk.set_at (Bk.set_at (Bk.set_at (Bk.set_at (Bk.set_at (Bk.set_at XA.out 0 _) 1 _) 2 _) 3 _) 4 _) 5 _) 6 _) 7 _, hxs, BC.out⟩
  case rest =>
   obtain ⟨xb, rfl, hx, hxs, hb⟩ := hcut
   have D2 := kp (D1.out.below hb)
   have X2 := kp hx
   have FX2 := kp (show Far xb st.t At from D1.out.fresh hxs)
   have hxb : w.heap.size + 1 ≤ xb := Nat.le_trans D1.out.size hxs
   have hxw := lt_of_block hx
   clear hx hb
   generalize hwb : wc = wb at *
   clear hwb
   have HA2 := kp (HAl.out _ _ _ D2.out)
   obtain ⟨vs, sa⟩ := al
   go_wp2_with fail
   refine HA2.out.mono ?_
   rintro e w3 ⟨L3, cl3, rfl, hcl3, hcm3, hv3, hk3, A3, c3, hm3, ht3⟩
   have D3 := kp (D2.out.call hk3 hm3 ht3)
   have X3 := kp (D2.out.blk hk3 X2.out (by omega))
   have FX3 := kp (Far.of_tn FX2.out ht3 (lt_of_block X2.out))
   have V3 := kp hv3
   have hvl3 : vs.length ≤ 3 := by have := HVl.out; omega
   clear hv3 hk3 hm3 ht3 HA2 HAl D1 D2 X2 FX2
   go_wp2_with fail
   go_loopw [45] (fun i' wr => ∃ k : Nat, k ≤ vs.length ∧ i' = .int .i64 k ∧ ∃ (st' : St) (A' : Option Addr) (c' : Nat), sortsM vs [f.a0, f.a1, f.a2] sa = sortsM (vs.drop k) ([f.a0, f.a1, f.a2].drop k) st' ∧ Mid F known w st.t At w.heap.size wr st' A' c' ∧ wr.heap[xb]? = some (.cells #[.int .i8 13, .int .i8 f.len, .int .i64 (argK vs k 0), .int .i64 (argK vs k 1), .int .i64 (argK vs k 2), .int .i64 f.res, .int .i64 (fi : Int), .int .i64 0] 55 (0, 0)) ∧ Far xb st'.t A' ∧ ValsN wb.heap.size wr L3 vs) (fun i' _ => vs.length - (intOf i').toNat)
   case atStart => exact ⟨0, Nat.zero_le _, rfl, sa, A3, c3, rfl, D3.out, X3.out, FX3.out, V3.out⟩
   case round =>
    obtain ⟨k, hk, rfl, st', A', c', hso, hmid, hxr, hfx, hvs⟩ := hrel
    have HSo := kp hso
    have DR := kp hmid
    have XR := kp hxr
    have FX := kp hfx
    have VR := kp hvs
    clear hso hmid hxr hfx hvs
    by_cases hkl : k < vs.length
    ·have hlt2 : (k : Int) < (vs.length : Int) := by omega
     have hk3 : k < 3 := by omega
     have hk3' : (k : Int) < 3 := by omega
     obtain ⟨v, hv⟩ : ∃ v, vs[k]? = some v := ⟨_, List.getElem?_eq_getElem hkl⟩
     obtain ⟨b, o, rfl, hbl, e0, e1, hvi⟩ := val_get VR.out.now hv
     have HSt := kp (sortsM_step (f := f) (st := st') hk3 hv)
     have HSet := kp (node_set (op := 13) (ln := f.len) (srt := f.res) (fn := (fi : Int)) (n := 0) hk3 hv)
     have BA := kp ((Below.refl wr.heap.size wr).alloc (Nat.le_refl _) (.cells #[.int .i64 v.1, .int .i64 v.2] 69))
     have DA := kp (DR.out.below BA.out)
     have XA := kp (Bk.on XR.out BA.out)
     have VA := kp (VR.out.below BA.out)
     have YA := kp (Bk.new wr (.cells #[.int .i64 v.1, .int .i64 v.2] 69))
     have hvb := DR.out.keeps.size
     have hxv := lt_of_block XR.out
     clear hv BA hvi
     go_upto_region 8 with fail
     generalize wr.alloc (.cells #[.int .i64 v.1, .int .i64 v.2] 69) = wa at *
     generalize wr.heap.size = vb at *
     clear e0 e1
     have B0 := kp (Below.refl wa.heap.size wa).drew
     have HMw := kp (fun W (hW : Below wa.heap.size wa W) => (DA.out.below hW).maker.blk)
     have HFw := kp (fun W (hW : Below wa.heap.size wa W) => show W.cell? ⟨fb, fo + fi * 6 + 2 + k, none⟩ = some (.int .i64 (Fun4.arg f k)) from FunAt.arg (HFA.out W (DA.out.below hW).maker.below) hk3)
     have DD := kp DA.out.drew
     have XD := kp (Bk.on XA.out B0.out)
     have VD := kp (VA.out.below B0.out)
     have YD := kp (Bk.on YA.out B0.out)
     by_cases he : st'.e = 0
     ·have he1 : (st'.e == 0) = true := by simp [he]
      refine wp_region_held_drew (S := fun W => Below wa.heap.size wa W) (by kernel_rfl) (B0.out) (fun hHeld => ?_)
      refine tk 0 (v := ?_) ?_ ?_
      rotate_left
      ·(intro w hSw; go_simp; try with_reducible rfl)
      try simp only [pt]
      refine tk 1 (v := ?_) ?_ ?_
      rotate_left
      ·(intro w hSw; go_simp; try with_reducible rfl)
      try simp only [pt]
      refine tk 2 (v := ?_) ?_ ?_
      rotate_left
      ·(intro w hSw; go_simp; try with_reducible rfl)
      try simp only [pt]
      refine tk 3 (v := ?_) ?_ ?_
      rotate_left
      ·(intro w hSw; (obtain ⟨m0, m1, m2, m3, m4, m5, m6, m7, m8, mf⟩ := Bk.c9 (HMw.out _ hSw); go_simp; try with_reducible rfl))
      try simp only [pt]
      refine tk 4 (v := ?_) ?_ ?_
      rotate_left
      ·(intro w hSw; go_simp; try with_reducible rfl)
      try simp only [pt]
      refine tk 5 (v := ?_) ?_ ?_
      rotate_left
      ·(intro w hSw; go_simp; try with_reducible rfl)
      try simp only [pt]
      refine tk 6 (v := ?_) ?_ ?_
      rotate_left
      ·(intro w hSw; go_simp; try with_reducible rfl)
      try simp only [pt]
      refine tk 7 (v := ?_) ?_ ?_
      rotate_left
      ·(intro w hSw; (obtain ⟨y0, y1, yf⟩ := Bk.c2 (Bk.on YA.out hSw); go_simp; try with_reducible rfl))
      try simp only [pt]
      refine tk 8 (v := ?_) ?_ ?_
      rotate_left
      ·(intro w hSw; go_simp; try with_reducible rfl)
      try simp only [pt]
      refine tk 9 (v := ?_) ?_ ?_
      rotate_left
      ·(intro w hSw; go_simp; try with_reducible rfl)
      try simp only [pt]
      refine tk 10 (v := ?_) ?_ ?_
      rotate_left
      ·(intro w hSw; go_simp; try with_reducible rfl)
      try simp only [pt]
      refine tk 11 (v := ?_) ?_ ?_
      rotate_left
      ·(intro w hSw; go_simp; try with_reducible rfl)
      try simp only [pt]
      refine tk 12 (v := ?_) ?_ ?_
      rotate_left
      ·(intro w hSw; go_simp; try with_reducible rfl)
      try simp only [pt]
      refine tk 13 (v := ?_) ?_ ?_
      rotate_left
      ·(intro w hSw; (have p0 := HFw.out _ hSw; go_simp; try with_reducible rfl))
      try simp only [pt]
      refine tk 14 (v := ?_) ?_ ?_
      rotate_left
      ·(intro w hSw; go_simp; try with_reducible rfl)
      try simp only [pt]
      refine tk 15 (v := ?_) ?_ ?_
      rotate_left
      ·(intro w hSw; go_simp; try with_reducible rfl)
      try simp only [pt]
      refine wpAnyH_done (by kernel_rfl) ?_ _
      by_cases hs : v.1 = Fun4.arg f k
      ·have hs1 : (v.1 != Fun4.arg f k) = false := by simp [hs]
       have HN := kp (show sortStep v (Fun4.arg f k) st' = st' by unfold sortStep; rw [if_neg (fun h => h.2 hs)])
       rw [HN.out, ← HSo.out] at HSt
       have D5 := DD
       have X5 := XD
       have V5 := VD
       have Y5 := YD
       have F5 := FX
       clear he he1 hs
       generalize World.drew _ = w5 at *
       have pk := NodeAt.arg' (node_block (n := ⟨13, f.len, argK vs k 0, argK vs k 1, argK vs k 2, f.res, (fi : Int), 0⟩) X5.out) hk3
       rw [Nat.zero_add] at pk
       obtain ⟨_, _, _, _, _, _, _, _, xf⟩ := Bk.c8 X5.out
       obtain ⟨y0, y1, yf⟩ := Bk.c2 Y5.out
       have D6 := kp (D5.out.other hF (k := xb) (by omega) (by omega) F5.out (2 + k) (.int .i64 v.2))
       have X6 := kp (Bk.set_at X5.out (2 + k) (.int .i64 v.2))
       rw [HSet.out] at X6
       have V6 := kp (V5.out.set (p := ⟨xb, 2 + k, none⟩) (.int .i64 v.2) hxw)
       go_wp2_with fail
       go_roundw
       case rel => exact ⟨k + 1, by omega, by go_num, st', A', c', HSt.out, D6.out, X6.out, F5.out, V6.out⟩
       case measure => simp [intOf]; omega
      ·have hs1 : (v.1 != Fun4.arg f k) = true := by rw [bne_iff_ne]; exact hs
       have HN := kp (show sortStep v (Fun4.arg f k) st' = failS 33 st' by unfold sortStep failS; rw [if_pos ⟨he, hs⟩, if_pos he])
       rw [HN.out, ← HSo.out] at HSt
       have HFl := kp (fail_any hF DD.out.maker 33 (by decide))
       clear he he1 hs
       generalize World.drew _ = w4 at *
       go_wp2_with fail
       refine HFl.out.mono ?_
       rintro e w5 ⟨rfl, hv, hk5, A5, c5, hm5, ht5⟩
       have D5 := kp (DD.out.call hk5 hm5 ht5)
       have X5 := kp (DD.out.blk hk5 XD.out (by omega))
       have V5 := kp (VD.out.keep hk5 (by omega))
       have Y5 := kp (DD.out.blk hk5 YD.out hvb)
       have F5 := kp (Far.of_tn FX.out ht5 (lt_of_block XD.out))
       clear hv hk5 hm5 ht5
       have pk := NodeAt.arg' (node_block (n := ⟨13, f.len, argK vs k 0, argK vs k 1, argK vs k 2, f.res, (fi : Int), 0⟩) X5.out) hk3
       rw [Nat.zero_add] at pk
       obtain ⟨_, _, _, _, _, _, _, _, xf⟩ := Bk.c8 X5.out
       obtain ⟨y0, y1, yf⟩ := Bk.c2 Y5.out
       have D6 := kp (D5.out.other hF (k := xb) (by omega) (by omega) F5.out (2 + k) (.int .i64 v.2))
       have X6 := kp (Bk.set_at X5.out (2 + k) (.int .i64 v.2))
       rw [HSet.out] at X6
       have V6 := kp (V5.out.set (p := ⟨xb, 2 + k, none⟩) (.int .i64 v.2) hxw)
       go_wp2_with fail
       go_roundw
       case rel => exact ⟨k + 1, by omega, by go_num, (failS 33 st'), A5, c5, HSt.out, D6.out, X6.out, F5.out, V6.out⟩
       case measure => simp [intOf]; omega
     ·have he1 : (st'.e == 0) = false := by simp [he]
      have HN := kp (show sortStep v (Fun4.arg f k) st' = st' by unfold sortStep; rw [if_neg (fun h => he h.1)])
      rw [HN.out, ← HSo.out] at HSt
      refine wp_region_held_drew (S := fun W => Below wa.heap.size wa W) (by kernel_rfl) (B0.out) (fun hHeld => ?_)
      refine tk 0 (v := ?_) ?_ ?_
      rotate_left
      ·(intro w hSw; go_simp; try with_reducible rfl)
      try simp only [pt]
      refine tk 1 (v := ?_) ?_ ?_
      rotate_left
      ·(intro w hSw; go_simp; try with_reducible rfl)
      try simp only [pt]
      refine tk 2 (v := ?_) ?_ ?_
      rotate_left
      ·(intro w hSw; go_simp; try with_reducible rfl)
      try simp only [pt]
      refine tk 3 (v := ?_) ?_ ?_
      rotate_left
      ·(intro w hSw; (obtain ⟨m0, m1, m2, m3, m4, m5, m6, m7, m8, mf⟩ := Bk.c9 (HMw.out _ hSw); go_simp; try with_reducible rfl))
      try simp only [pt]
      refine tk 4 (v := ?_) ?_ ?_
      rotate_left
      ·(intro w hSw; go_simp; try with_reducible rfl)
      try simp only [pt]
      refine tk 5 (v := ?_) ?_ ?_
      rotate_left
      ·(intro w hSw; go_simp; try with_reducible rfl)
      try simp only [pt]
      refine sk 6 ?_
      try simp only [pt]
      refine sk 7 ?_
      try simp only [pt]
      refine sk 8 ?_
      try simp only [pt]
      refine sk 9 ?_
      try simp only [pt]
      refine sk 10 ?_
      try simp only [pt]
      refine sk 11 ?_
      try simp only [pt]
      refine sk 12 ?_
      try simp only [pt]
      refine sk 13 ?_
      try simp only [pt]
      refine sk 14 ?_
      try simp only [pt]
      refine tk 15 (v := ?_) ?_ ?_
      rotate_left
      ·(intro w hSw; go_simp; try with_reducible rfl)
      try simp only [pt]
      refine wpAnyH_done (by kernel_rfl) ?_ _
      have D5 := DD
      have X5 := XD
      have V5 := VD
      have Y5 := YD
      have F5 := FX
      clear he he1
      generalize World.drew _ = w5 at *
      have pk := NodeAt.arg' (node_block (n := ⟨13, f.len, argK vs k 0, argK vs k 1, argK vs k 2, f.res, (fi : Int), 0⟩) X5.out) hk3
      rw [Nat.zero_add] at pk
      obtain ⟨_, _, _, _, _, _, _, _, xf⟩ := Bk.c8 X5.out
      obtain ⟨y0, y1, yf⟩ := Bk.c2 Y5.out
      have D6 := kp (D5.out.other hF (k := xb) (by omega) (by omega) F5.out (2 + k) (.int .i64 v.2))
      have X6 := kp (Bk.set_at X5.out (2 + k) (.int .i64 v.2))
      rw [HSet.out] at X6
      have V6 := kp (V5.out.set (p := ⟨xb, 2 + k, none⟩) (.int .i64 v.2) hxw)
      go_wp2_with fail
      go_roundw
      case rel => exact ⟨k + 1, by omega, by go_num, st', A', c', HSt.out, D6.out, X6.out, F5.out, V6.out⟩
      case measure => simp [intOf]; omega
    ·obtain rfl : k = vs.length := by omega
     have HSo2 := kp (show sortsM vs [f.a0, f.a1, f.a2] sa = st' by rw [HSo.out, List.drop_length]; unfold sortsM; rfl)
     replace HS := kp (show res = putM F.c ⟨13, f.len, argK vs vs.length 0, argK vs vs.length 1, argK vs vs.length 2, f.res, fi, 0⟩ st' by rw [HS.out, argK_full, argK_full, argK_full, HSo2.out])
     have HNi := nthN_i64 (lies_vi VR.out.now)
     have HNI := kp (show NodeI ⟨13, f.len, argK vs vs.length 0, argK vs vs.length 1, argK vs vs.length 2, f.res, fi, 0⟩ from ⟨I8.of (n := 13) (by decide) (by decide), I8.of (n := f.len) hfl.1 (by omega), (argK_full vs 0).symm ▸ HNi 0, (argK_full vs 1).symm ▸ HNi 1, (argK_full vs 2).symm ▸ HNi 2, HFI.out.res, ⟨by show -9223372036854775808 ≤ (fi : Int); omega, by show (fi : Int) ≤ 9223372036854775807; omega⟩, v0_VI.1⟩)
     have HPut := kp (put_any hF DR.out.maker HNI.out)
     rw [← HS.out] at HPut
     obtain ⟨x0, x1, x2, x3, x4, x5, x6, x7, xf⟩ := Bk.c8 XR.out
     clear HNi
     go_wp2_with fail
     refine HPut.out.mono ?_
     rintro e w7 ⟨rfl, hv, hk7, A7, c7, hm7, ht7⟩
     have D7 := kp (DR.out.call hk7 hm7 ht7)
     unfold valV
     clear hk7 hm7 ht7 x0 x1 x2 x3 x4 x5 x6 x7 xf
     obtain ⟨r0, r1, rf⟩ := Bk.c2 D7.out.cell
     go_wp2_with fail
     refine D7.out.ret (v := res.1) hF Tryz.results84 ?_ ?_ hv <;> rfl
 ·have g1 : ((l.length : Int) != f.len) = true := by rw [bne_iff_ne]; exact h1
  replace HS := kp (HS.out.trans (if_pos h1))
  have HFl := kp (fail_any hF D1.out.maker 30 (by decide))
  clear h1
  go_wp2_with fail
  refine HFl.out.mono ?_
  rintro e w7 ⟨rfl, hv, hk7, A7, c7, hm7, ht7⟩
  have D7 := kp (D1.out.call hk7 hm7 ht7)
  unfold valV v0
  clear hk7 hm7 ht7 m0 m1 m2 m3 m4 m5 m6 m7 m8 mf f0 f1 f2 f3 f4 f5
  obtain ⟨r0, r1, rf⟩ := Bk.c2 D7.out.cell
  go_wp2_with fail
  rw [HS.out]
  refine D7.out.ret (v := v0) hF Tryz.results84 ?_ ?_ v0_VI <;> rfl
end Go.Proofs.YtpmdcckapddchaaGreat.El
/- The program's sig: functions and macros by their names. -/
namespace Go.Proofs.YtpmdcckapddchaaGreat.El
open Go.RowKit Go.Maps Go.Proofs.YtpmdcckapddchaaGreat.Dt Go.Proofs.YtpmdcckapddchaaGreat.Sg

set_option maxRecDepth 100000 in
set_option maxHeartbeats 1600000 in
theorem ofFun_any {w : World} (nm : ByteArray) (v1 v2 v3 v4 v5 : Int) :
  Calls Tryz.prog 137 #[.agg #[.string nm, .int .i64 v1, .int .i64 v2, .int .i64 v3, .int .i64 v4, .int .i64 v5]] w fun e w' => e = .returned (.string nm) ∧ Below w.heap.size w w' := by
 have XB := kp (Bk.new w (.cells #[.string nm, .int .i64 v1, .int .i64 v2, .int .i64 v3, .int .i64 v4, .int .i64 v5] 104))
 have B1 := kp ((Below.refl w.heap.size w).alloc (Nat.le_refl _) (.cells #[.string nm, .int .i64 v1, .int .i64 v2, .int .i64 v3, .int .i64 v4, .int .i64 v5] 104))
 go_enter Tryz.func137, Tryz.ntmps137
 go_upto_region 1 with fail
 generalize w.alloc (.cells #[.string nm, .int .i64 v1, .int .i64 v2, .int .i64 v3, .int .i64 v4, .int .i64 v5] 104) = w1 at *
 obtain ⟨q0, q1, q2, q3, q4, q5, qf⟩ := Bk.c6 XB.out
 go_wp2_with fail
 go_ret
 exact ⟨rfl, B1.out⟩
set_option maxRecDepth 100000 in
set_option maxHeartbeats 1600000 in
theorem clFun_any {w : World} {ob nb : Nat} {s : ByteArray} (nm : ByteArray) (v1 v2 v3 v4 v5 : Int) (ho : w.heap[ob]? = some (.cells #[.func (.func 137) #[] #[]] 172 (0, 0))) (hn : w.heap[nb]? = some (.cells #[.string s] 9 (0, 0))) :
  Calls Tryz.prog 175 #[.agg #[.string nm, .int .i64 v1, .int .i64 v2, .int .i64 v3, .int .i64 v4, .int .i64 v5], .pointer (some ⟨ob, 0, none⟩), .pointer (some ⟨nb, 0, none⟩)] w fun e w' => e = .returned (.bool (decide (nm = s))) ∧ Below w.heap.size w w' := by
 have XB := kp (Bk.new w (.cells #[.string nm, .int .i64 v1, .int .i64 v2, .int .i64 v3, .int .i64 v4, .int .i64 v5] 104))
 have B1 := kp ((Below.refl w.heap.size w).alloc (Nat.le_refl _) (.cells #[.string nm, .int .i64 v1, .int .i64 v2, .int .i64 v3, .int .i64 v4, .int .i64 v5] 104))
 have OB := kp (Bk.on ho B1.out)
 have NB := kp (Bk.on hn B1.out)
 have HOf := kp (fun W => ofFun_any (w := W) nm v1 v2 v3 v4 v5)
 have HQ := kp (show (nm.toList == s.toList) = decide (nm = s) by
  by_cases h : nm = s
  ·subst h; simp
  ·rw [text_ne h, decide_eq_false h])
 clear ho hn
 go_enter Tryz.func175, Tryz.ntmps175
 go_upto_region 1 with fail
 generalize w.alloc (.cells #[.string nm, .int .i64 v1, .int .i64 v2, .int .i64 v3, .int .i64 v4, .int .i64 v5] 104) = w1 at *
 have B0 := kp (Below.refl w1.heap.size w1).drew
 refine wp_region_held_drew (S := fun W => Below w1.heap.size w1 W) (by kernel_rfl) (B0.out) (fun hHeld => ?_)
 refine tk 0 (v := ?_) ?_ ?_
 rotate_left
 ·(intro w hSw; (obtain ⟨q0, qf⟩ := Bk.c1 (Bk.on OB.out hSw); go_simp; try with_reducible rfl))
 try simp only [pt]
 refine tk 1 (v := ?_) ?_ ?_
 rotate_left
 ·(intro w hSw; (obtain ⟨q0, q1, q2, q3, q4, q5, qf⟩ := Bk.c6 (Bk.on XB.out hSw); go_simp; try with_reducible rfl))
 try simp only [pt]
 refine tk 3 (v := ?_) ?_ ?_
 rotate_left
 ·(intro w hSw; (obtain ⟨q0, qf⟩ := Bk.c1 (Bk.on NB.out hSw); go_simp; try with_reducible rfl))
 try simp only [pt]
 refine rd 2 fun K hK => ?_
 go_simp
 refine (HOf.out _).mono ?_
 rintro e w2 ⟨rfl, hb2⟩
 have B2 := kp (B0.out.trans (hb2.mono B0.out.size))
 clear hb2
 refine hK.out _ _ B2.out (fun hHeld => ?_)
 clear hK K
 refine tk 4 (v := ?_) ?_ ?_
 rotate_left
 ·(intro w hSw; go_simp; try with_reducible rfl)
 try simp only [pt]
 refine tk 5 (v := ?_) ?_ ?_
 rotate_left
 ·(intro w hSw; go_simp; try with_reducible rfl)
 try simp only [pt]
 refine wpAnyH_done (by kernel_rfl) ?_ _
 go_wp2_with fail
 go_ret
 exact ⟨by rw [← HQ.out]; rfl, B1.out.trans (B2.out.mono B1.out.size)⟩
set_option maxRecDepth 100000 in
set_option maxHeartbeats 1600000 in
theorem ofMac_any {w : World} (nm : ByteArray) (v1 : Option Addr) (n1 c1 : Nat) (v2 v3 : Int) (v4 : ByteArray) (v5 : Option Addr) (n5 c5 : Nat) :
  Calls Tryz.prog 139 #[.agg #[.string nm, .slice v1 n1 c1, .int .i64 v2, .int .i8 v3, .string v4, .slice v5 n5 c5]] w fun e w' => e = .returned (.string nm) ∧ Below w.heap.size w w' := by
 have XB := kp (Bk.new w (.cells #[.string nm, .slice v1 n1 c1, .int .i64 v2, .int .i8 v3, .string v4, .slice v5 n5 c5] 47))
 have B1 := kp ((Below.refl w.heap.size w).alloc (Nat.le_refl _) (.cells #[.string nm, .slice v1 n1 c1, .int .i64 v2, .int .i8 v3, .string v4, .slice v5 n5 c5] 47))
 go_enter Tryz.func139, Tryz.ntmps139
 go_upto_region 1 with fail
 generalize w.alloc (.cells #[.string nm, .slice v1 n1 c1, .int .i64 v2, .int .i8 v3, .string v4, .slice v5 n5 c5] 47) = w1 at *
 obtain ⟨q0, q1, q2, q3, q4, q5, qf⟩ := Bk.c6 XB.out
 go_wp2_with fail
 go_ret
 exact ⟨rfl, B1.out⟩
set_option maxRecDepth 100000 in
set_option maxHeartbeats 1600000 in
theorem clMac_any {w : World} {ob nb : Nat} {s : ByteArray} (nm : ByteArray) (v1 : Option Addr) (n1 c1 : Nat) (v2 v3 : Int) (v4 : ByteArray) (v5 : Option Addr) (n5 c5 : Nat) (ho : w.heap[ob]? = some (.cells #[.func (.func 139) #[] #[]] 175 (0, 0))) (hn : w.heap[nb]? = some (.cells #[.string s] 9 (0, 0))) :
  Calls Tryz.prog 177 #[.agg #[.string nm, .slice v1 n1 c1, .int .i64 v2, .int .i8 v3, .string v4, .slice v5 n5 c5], .pointer (some ⟨ob, 0, none⟩), .pointer (some ⟨nb, 0, none⟩)] w fun e w' => e = .returned (.bool (decide (nm = s))) ∧ Below w.heap.size w w' := by
 have XB := kp (Bk.new w (.cells #[.string nm, .slice v1 n1 c1, .int .i64 v2, .int .i8 v3, .string v4, .slice v5 n5 c5] 47))
 have B1 := kp ((Below.refl w.heap.size w).alloc (Nat.le_refl _) (.cells #[.string nm, .slice v1 n1 c1, .int .i64 v2, .int .i8 v3, .string v4, .slice v5 n5 c5] 47))
 have OB := kp (Bk.on ho B1.out)
 have NB := kp (Bk.on hn B1.out)
 have HOf := kp (fun W => ofMac_any (w := W) nm v1 n1 c1 v2 v3 v4 v5 n5 c5)
 have HQ := kp (show (nm.toList == s.toList) = decide (nm = s) by
  by_cases h : nm = s
  ·subst h; simp
  ·rw [text_ne h, decide_eq_false h])
 clear ho hn
 go_enter Tryz.func177, Tryz.ntmps177
 go_upto_region 1 with fail
 generalize w.alloc (.cells #[.string nm, .slice v1 n1 c1, .int .i64 v2, .int .i8 v3, .string v4, .slice v5 n5 c5] 47) = w1 at *
 have B0 := kp (Below.refl w1.heap.size w1).drew
 refine wp_region_held_drew (S := fun W => Below w1.heap.size w1 W) (by kernel_rfl) (B0.out) (fun hHeld => ?_)
 refine tk 0 (v := ?_) ?_ ?_
 rotate_left
 ·(intro w hSw; (obtain ⟨q0, qf⟩ := Bk.c1 (Bk.on OB.out hSw); go_simp; try with_reducible rfl))
 try simp only [pt]
 refine tk 1 (v := ?_) ?_ ?_
 rotate_left
 ·(intro w hSw; (obtain ⟨q0, q1, q2, q3, q4, q5, qf⟩ := Bk.c6 (Bk.on XB.out hSw); go_simp; try with_reducible rfl))
 try simp only [pt]
 refine tk 3 (v := ?_) ?_ ?_
 rotate_left
 ·(intro w hSw; (obtain ⟨q0, qf⟩ := Bk.c1 (Bk.on NB.out hSw); go_simp; try with_reducible rfl))
 try simp only [pt]
 refine rd 2 fun K hK => ?_
 go_simp
 refine (HOf.out _).mono ?_
 rintro e w2 ⟨rfl, hb2⟩
 have B2 := kp (B0.out.trans (hb2.mono B0.out.size))
 clear hb2
 refine hK.out _ _ B2.out (fun hHeld => ?_)
 clear hK K
 refine tk 4 (v := ?_) ?_ ?_
 rotate_left
 ·(intro w hSw; go_simp; try with_reducible rfl)
 try simp only [pt]
 refine tk 5 (v := ?_) ?_ ?_
 rotate_left
 ·(intro w hSw; go_simp; try with_reducible rfl)
 try simp only [pt]
 refine wpAnyH_done (by kernel_rfl) ?_ _
 go_wp2_with fail
 go_ret
 exact ⟨by rw [← HQ.out]; rfl, B1.out.trans (B2.out.mono B1.out.size)⟩
set_option maxRecDepth 100000 in
set_option maxHeartbeats 3200000 in
theorem idxFun_any {w : World} {ob nb c : Nat} {s : ByteArray} {A : Option Addr} {l : List Fun4} (hl : Lies 6 FunR w A l) (hlen : (l.length : Int) ≤ 140737488351232) (ho : w.heap[ob]? = some (.cells #[.func (.func 137) #[] #[]] 172 (0, 0))) (hn : w.heap[nb]? = some (.cells #[.string s] 9 (0, 0))) :
  Calls Tryz.prog 174 #[.slice A l.length c, .func (.func 175) #[] #[.pointer (some ⟨ob, 0, none⟩), .pointer (some ⟨nb, 0, none⟩)]] w fun e w' => e = .returned (.int .i64 (if hasB (l.map Fun4.name) s then (findAt (l.map Fun4.name) s : Nat) else -1)) ∧ Below w.heap.size w w' := by
 have HL := kp hl
 have OB := kp ho
 have NB := kp hn
 have HX := kp (fun k hk h => findAt_stop (l := l.map Fun4.name) (s := s) (k := k) hk h)
 have HN := kp (fun h => findAt_none (l := l.map Fun4.name) (s := s) h)
 have HS := kp (fun k x hk h h' => find_step (l := l.map Fun4.name) (s := s) (k := k) (x := x) hk h h')
 have HM := kp (fun k x => map_at (l := l) (nm := Fun4.name) (k := k) (x := x))
 have hln : (l.map Fun4.name).length = l.length := by simp
 clear hl ho hn
 generalize l.map Fun4.name = ns at *
 generalize hres : (if hasB ns s then ((findAt ns s : Nat) : Int) else -1) = res
 have HR := kp hres
 clear hres
 go_enter Tryz.func174, Tryz.ntmps174
 go_wp2_with fail
 go_loopw [8] (fun v wr => ∃ k : Nat, k ≤ l.length ∧ v = .int .i64 k ∧ hasB (ns.take k) s = false ∧ Below w.heap.size w wr) (fun v _ => l.length - (intOf v).toNat)
 case atStart => exact ⟨0, Nat.zero_le _, rfl, rfl, Below.refl _ _⟩
 case round =>
  obtain ⟨k, hk, rfl, hn, hb⟩ := hrel
  have HK := kp hn
  have HB := kp hb
  clear hn hb
  by_cases hlt : k < l.length
  ·have hlt2 : (k : Int) < (l.length : Int) := by omega
   obtain ⟨y, hy⟩ : ∃ y, l[k]? = some y := ⟨_, List.getElem?_eq_getElem hlt⟩
   obtain ⟨b, o, vs, rfl, hbl, _, hcell, hr⟩ := (HL.out.on FunR.lasts HB.out).at' hy
   obtain ⟨rfl, _⟩ := hr
   have c0 := hcell 0 _ rfl
   have c1 := hcell 1 _ rfl
   have c2 := hcell 2 _ rfl
   have c3 := hcell 3 _ rfl
   have c4 := hcell 4 _ rfl
   have c5 := hcell 5 _ rfl
   rw [Nat.add_zero] at c0
   have HX2 := kp (HM.out k y hy)
   have HC := kp (clFun_any (w := wr) y.name y.len y.a0 y.a1 y.a2 y.res (Bk.on OB.out HB.out) (Bk.on NB.out HB.out))
   clear hcell hy
   by_cases hq : Fun4.name y = s
   ·have HQ := kp (HX.out k (by rw [← hq]; exact HX2.out) HK.out)
    rw [decide_eq_true hq] at HC
    clear hq
    go_wp2_with fail
    refine HC.out.mono ?_
    rintro e w2 ⟨rfl, hb2⟩
    have HB2 := kp (HB.out.trans (hb2.mono HB.out.size))
    clear hb2
    go_wp2_with fail
    go_ret
    exact ⟨by rw [← HR.out, HQ.out.2, HQ.out.1]; rfl, HB2.out⟩
   ·have HQ := kp (HS.out k _ HX2.out HK.out hq)
    rw [decide_eq_false hq] at HC
    clear hq
    go_wp2_with fail
    refine HC.out.mono ?_
    rintro e w2 ⟨rfl, hb2⟩
    have HB2 := kp (HB.out.trans (hb2.mono HB.out.size))
    clear hb2
    go_wp2_with fail
    go_roundw
    case rel => exact ⟨k + 1, by omega, by go_num, HQ.out, HB2.out⟩
    case measure => simp [intOf]; omega
  ·obtain rfl : k = l.length := by omega
   have HQ := kp (HN.out (by have := HK.out; rwa [List.take_of_length_le (by omega)] at this))
   go_wp2_with fail
   go_ret
   exact ⟨by rw [← HR.out, HQ.out.2]; rfl, HB.out⟩
set_option maxHeartbeats 1600000 in
theorem findFun_any {w : World} {c : Nat} (s : ByteArray) {A : Option Addr} {l : List Fun4} (hl : Lies 6 FunR w A l) (hlen : (l.length : Int) ≤ 140737488351232) :
  Calls Tryz.prog 136 #[.slice A l.length c, .func (.func 137) #[] #[], .string s] w fun e w' => e = .returned (.tuple #[.int .i64 (findAt (l.map Fun4.name) s : Nat), .bool (hasB (l.map Fun4.name) s)]) ∧ Below w.heap.size w w' := by
 have B1 := kp ((Below.refl w.heap.size w).alloc (Nat.le_refl _) (.cells #[.func (.func 137) #[] #[]] 172))
 have Z1 := kp (show (w.alloc (.cells #[.func (.func 137) #[] #[]] 172)).heap.size = w.heap.size + 1 by simp)
 have OB := kp (Bk.keep (Bk.new w (.cells #[.func (.func 137) #[] #[]] 172)) (.cells #[.string s] 9))
 have NB := kp (Bk.new (w.alloc (.cells #[.func (.func 137) #[] #[]] 172)) (.cells #[.string s] 9))
 have B2 := kp (B1.out.alloc B1.out.size (.cells #[.string s] 9))
 rw [Z1.out] at NB
 have HI := kp (idxFun_any (c := c) (hl.on FunR.lasts B2.out) hlen OB.out NB.out)
 have HE := kp (show hasB (l.map Fun4.name) s = false → findAt (l.map Fun4.name) s = 0 from fun h => (findAt_none h).1)
 have hfl : ((findAt (l.map Fun4.name) s : Nat) : Int) ≤ 140737488351232 := by
  have h1 : findAt (l.map Fun4.name) s ≤ l.length := by
   unfold findAt
   split
   ·exact Nat.le_trans List.findIdx_le_length (by simp)
   ·omega
  omega
 clear hl
 generalize findAt (l.map Fun4.name) s = fa at *
 generalize hasB (l.map Fun4.name) s = hb at *
 go_enter Tryz.func136, Tryz.ntmps136
 go_upto_region 1 with fail
 generalize (w.alloc (.cells #[.func (.func 137) #[] #[]] 172)).alloc (.cells #[.string s] 9) = w1 at *
 cases hb with
 | true =>
  go_wp2_with fail
  refine HI.out.mono ?_
  rintro e w2 ⟨rfl, hb2⟩
  have B3 := kp (B2.out.trans (hb2.mono B2.out.size))
  clear hb2
  have hmx : max ((fa : Nat) : Int) 0 = (fa : Int) := by omega
  go_wp2_with fail
  go_ret2
  exact ⟨rfl, B3.out⟩
 | false =>
  obtain rfl := HE.out rfl
  go_wp2_with fail
  refine HI.out.mono ?_
  rintro e w2 ⟨rfl, hb2⟩
  have B3 := kp (B2.out.trans (hb2.mono B2.out.size))
  clear hb2
  go_wp2_with fail
  go_ret2
  exact ⟨rfl, B3.out⟩
set_option maxRecDepth 100000 in
set_option maxHeartbeats 3200000 in
theorem idxMac_any {w : World} {ob nb c : Nat} {s : ByteArray} {A : Option Addr} {l : List Macro} (hl : Lies 6 MacroR w A l) (hlen : (l.length : Int) ≤ 140737488351232) (ho : w.heap[ob]? = some (.cells #[.func (.func 139) #[] #[]] 175 (0, 0))) (hn : w.heap[nb]? = some (.cells #[.string s] 9 (0, 0))) :
  Calls Tryz.prog 176 #[.slice A l.length c, .func (.func 177) #[] #[.pointer (some ⟨ob, 0, none⟩), .pointer (some ⟨nb, 0, none⟩)]] w fun e w' => e = .returned (.int .i64 (if hasB (l.map Macro.name) s then (findAt (l.map Macro.name) s : Nat) else -1)) ∧ Below w.heap.size w w' := by
 have HL := kp hl
 have OB := kp ho
 have NB := kp hn
 have HX := kp (fun k hk h => findAt_stop (l := l.map Macro.name) (s := s) (k := k) hk h)
 have HN := kp (fun h => findAt_none (l := l.map Macro.name) (s := s) h)
 have HS := kp (fun k x hk h h' => find_step (l := l.map Macro.name) (s := s) (k := k) (x := x) hk h h')
 have HM := kp (fun k x => map_at (l := l) (nm := Macro.name) (k := k) (x := x))
 have hln : (l.map Macro.name).length = l.length := by simp
 clear hl ho hn
 generalize l.map Macro.name = ns at *
 generalize hres : (if hasB ns s then ((findAt ns s : Nat) : Int) else -1) = res
 have HR := kp hres
 clear hres
 go_enter Tryz.func176, Tryz.ntmps176
 go_wp2_with fail
 go_loopw [8] (fun v wr => ∃ k : Nat, k ≤ l.length ∧ v = .int .i64 k ∧ hasB (ns.take k) s = false ∧ Below w.heap.size w wr) (fun v _ => l.length - (intOf v).toNat)
 case atStart => exact ⟨0, Nat.zero_le _, rfl, rfl, Below.refl _ _⟩
 case round =>
  obtain ⟨k, hk, rfl, hn, hb⟩ := hrel
  have HK := kp hn
  have HB := kp hb
  clear hn hb
  by_cases hlt : k < l.length
  ·have hlt2 : (k : Int) < (l.length : Int) := by omega
   obtain ⟨y, hy⟩ : ∃ y, l[k]? = some y := ⟨_, List.getElem?_eq_getElem hlt⟩
   obtain ⟨b, o, vs, rfl, hbl, _, hcell, hr⟩ := (HL.out.on MacroR.lasts HB.out).at' hy
   (obtain ⟨pA, pc, bv, rfl, hbv, _⟩ := hr; obtain ⟨bA, bc, rfl, _⟩ := hbv.open')
   have c0 := hcell 0 _ rfl
   have c1 := hcell 1 _ rfl
   have c2 := hcell 2 _ rfl
   have c3 := hcell 3 _ rfl
   have c4 := hcell 4 _ rfl
   have c5 := hcell 5 _ rfl
   rw [Nat.add_zero] at c0
   have HX2 := kp (HM.out k y hy)
   have HC := kp (clMac_any (w := wr) y.name pA y.params.length pc y.res y.body.kind y.body.text bA y.body.l.length bc (Bk.on OB.out HB.out) (Bk.on NB.out HB.out))
   clear hcell hy
   by_cases hq : Macro.name y = s
   ·have HQ := kp (HX.out k (by rw [← hq]; exact HX2.out) HK.out)
    rw [decide_eq_true hq] at HC
    clear hq
    go_wp2_with fail
    refine HC.out.mono ?_
    rintro e w2 ⟨rfl, hb2⟩
    have HB2 := kp (HB.out.trans (hb2.mono HB.out.size))
    clear hb2
    go_wp2_with fail
    go_ret
    exact ⟨by rw [← HR.out, HQ.out.2, HQ.out.1]; rfl, HB2.out⟩
   ·have HQ := kp (HS.out k _ HX2.out HK.out hq)
    rw [decide_eq_false hq] at HC
    clear hq
    go_wp2_with fail
    refine HC.out.mono ?_
    rintro e w2 ⟨rfl, hb2⟩
    have HB2 := kp (HB.out.trans (hb2.mono HB.out.size))
    clear hb2
    go_wp2_with fail
    go_roundw
    case rel => exact ⟨k + 1, by omega, by go_num, HQ.out, HB2.out⟩
    case measure => simp [intOf]; omega
  ·obtain rfl : k = l.length := by omega
   have HQ := kp (HN.out (by have := HK.out; rwa [List.take_of_length_le (by omega)] at this))
   go_wp2_with fail
   go_ret
   exact ⟨by rw [← HR.out, HQ.out.2]; rfl, HB.out⟩
set_option maxHeartbeats 1600000 in
theorem findMac_any {w : World} {c : Nat} (s : ByteArray) {A : Option Addr} {l : List Macro} (hl : Lies 6 MacroR w A l) (hlen : (l.length : Int) ≤ 140737488351232) :
  Calls Tryz.prog 138 #[.slice A l.length c, .func (.func 139) #[] #[], .string s] w fun e w' => e = .returned (.tuple #[.int .i64 (findAt (l.map Macro.name) s : Nat), .bool (hasB (l.map Macro.name) s)]) ∧ Below w.heap.size w w' := by
 have B1 := kp ((Below.refl w.heap.size w).alloc (Nat.le_refl _) (.cells #[.func (.func 139) #[] #[]] 175))
 have Z1 := kp (show (w.alloc (.cells #[.func (.func 139) #[] #[]] 175)).heap.size = w.heap.size + 1 by simp)
 have OB := kp (Bk.keep (Bk.new w (.cells #[.func (.func 139) #[] #[]] 175)) (.cells #[.string s] 9))
 have NB := kp (Bk.new (w.alloc (.cells #[.func (.func 139) #[] #[]] 175)) (.cells #[.string s] 9))
 have B2 := kp (B1.out.alloc B1.out.size (.cells #[.string s] 9))
 rw [Z1.out] at NB
 have HI := kp (idxMac_any (c := c) (hl.on MacroR.lasts B2.out) hlen OB.out NB.out)
 have HE := kp (show hasB (l.map Macro.name) s = false → findAt (l.map Macro.name) s = 0 from fun h => (findAt_none h).1)
 have hfl : ((findAt (l.map Macro.name) s : Nat) : Int) ≤ 140737488351232 := by
  have h1 : findAt (l.map Macro.name) s ≤ l.length := by
   unfold findAt
   split
   ·exact Nat.le_trans List.findIdx_le_length (by simp)
   ·omega
  omega
 clear hl
 generalize findAt (l.map Macro.name) s = fa at *
 generalize hasB (l.map Macro.name) s = hb at *
 go_enter Tryz.func138, Tryz.ntmps138
 go_upto_region 1 with fail
 generalize (w.alloc (.cells #[.func (.func 139) #[] #[]] 175)).alloc (.cells #[.string s] 9) = w1 at *
 cases hb with
 | true =>
  go_wp2_with fail
  refine HI.out.mono ?_
  rintro e w2 ⟨rfl, hb2⟩
  have B3 := kp (B2.out.trans (hb2.mono B2.out.size))
  clear hb2
  have hmx : max ((fa : Nat) : Int) 0 = (fa : Int) := by omega
  go_wp2_with fail
  go_ret2
  exact ⟨rfl, B3.out⟩
 | false =>
  obtain rfl := HE.out rfl
  go_wp2_with fail
  refine HI.out.mono ?_
  rintro e w2 ⟨rfl, hb2⟩
  have B3 := kp (B2.out.trans (hb2.mono B2.out.size))
  clear hb2
  go_wp2_with fail
  go_ret2
  exact ⟨rfl, B3.out⟩
set_option maxHeartbeats 1600000 in
theorem sigFun_any {w : World} {A1 A2 A3 : Option Addr} {n1 c1 c2 n3 c3 : Nat} (s : ByteArray) {l : List Fun4} (hl : Lies 6 FunR w A2 l) (hlen : (l.length : Int) ≤ 140737488351232) :
  Calls Tryz.prog 83 #[.agg #[.slice A1 n1 c1, .slice A2 l.length c2, .slice A3 n3 c3], .string s] w fun e w' => e = .returned (.tuple #[.int .i64 (findAt (l.map Fun4.name) s : Nat), .bool (hasB (l.map Fun4.name) s)]) ∧ Below w.heap.size w w' := by
 have XB := kp (Bk.new w (.cells #[.slice A1 n1 c1, .slice A2 l.length c2, .slice A3 n3 c3] 26))
 have B1 := kp ((Below.refl w.heap.size w).alloc (Nat.le_refl _) (.cells #[.slice A1 n1 c1, .slice A2 l.length c2, .slice A3 n3 c3] 26))
 have HF := kp (findFun_any (c := c2) s (hl.on FunR.lasts B1.out) hlen)
 clear hl
 go_enter Tryz.func83, Tryz.ntmps83
 go_upto_region 1 with fail
 generalize w.alloc (.cells #[.slice A1 n1 c1, .slice A2 l.length c2, .slice A3 n3 c3] 26) = w1 at *
 obtain ⟨q0, q1, q2, qf⟩ := Bk.c3 XB.out
 go_wp2_with fail
 refine HF.out.mono ?_
 rintro e w2 ⟨rfl, hb2⟩
 have B2 := kp (B1.out.trans (hb2.mono B1.out.size))
 clear hb2
 go_wp2_with fail
 go_ret2
 exact ⟨rfl, B2.out⟩
set_option maxHeartbeats 1600000 in
theorem sigMac_any {w : World} {A1 A2 A3 : Option Addr} {n1 c1 n2 c2 c3 : Nat} (s : ByteArray) {l : List Macro} (hl : Lies 6 MacroR w A3 l) (hlen : (l.length : Int) ≤ 140737488351232) :
  Calls Tryz.prog 85 #[.agg #[.slice A1 n1 c1, .slice A2 n2 c2, .slice A3 l.length c3], .string s] w fun e w' => e = .returned (.tuple #[.int .i64 (findAt (l.map Macro.name) s : Nat), .bool (hasB (l.map Macro.name) s)]) ∧ Below w.heap.size w w' := by
 have XB := kp (Bk.new w (.cells #[.slice A1 n1 c1, .slice A2 n2 c2, .slice A3 l.length c3] 26))
 have B1 := kp ((Below.refl w.heap.size w).alloc (Nat.le_refl _) (.cells #[.slice A1 n1 c1, .slice A2 n2 c2, .slice A3 l.length c3] 26))
 have HF := kp (findMac_any (c := c3) s (hl.on MacroR.lasts B1.out) hlen)
 clear hl
 go_enter Tryz.func85, Tryz.ntmps85
 go_upto_region 1 with fail
 generalize w.alloc (.cells #[.slice A1 n1 c1, .slice A2 n2 c2, .slice A3 l.length c3] 26) = w1 at *
 obtain ⟨q0, q1, q2, qf⟩ := Bk.c3 XB.out
 go_wp2_with fail
 refine HF.out.mono ?_
 rintro e w2 ⟨rfl, hb2⟩
 have B2 := kp (B1.out.trans (hb2.mono B1.out.size))
 clear hb2
 go_wp2_with fail
 go_ret2
 exact ⟨rfl, B2.out⟩
end Go.Proofs.YtpmdcckapddchaaGreat.El
