import Derived.Test.YtpmdcckapddchaaGreatShort
import Derived.Test.YtpmdcckapddchaaGreatMq
/- merged by wip/merge.py from: ElDiffer2 -/
/- A comparison of a difference: the walk. -/
namespace Go.Proofs.YtpmdcckapddchaaGreat.El
open Go.RowKit Go.Maps Go.Proofs.YtpmdcckapddchaaGreat.Dt Go.Proofs.YtpmdcckapddchaaGreat.Sg

theorem zero_str (w : World) : (zeroValue 9).run Tryz.prog w = .ok (.string { data := #[] }) w := by kernel_rfl
def turnF : ByteArray → Option Value := fun x => if x = sEq then some (.string { data := #[61] }) else if x = sGt then some (.string { data := #[60] }) else if x = sGe then some (.string { data := #[60, 61] }) else if x = sLt then some (.string { data := #[62] }) else if x = sLe then some (.string { data := #[62, 61] }) else none
theorem turn_get {s : ByteArray} (h : comparesB s = true) (z : Value) : (turnF s).getD z = .string (turnN s) := by
 unfold comparesB at h
 simp only [Bool.or_eq_true, decide_eq_true_eq] at h
 rcases h with (((h | h) | h) | h) | h <;> subst h <;> rfl
set_option maxRecDepth 100000 in
set_option maxHeartbeats 51200000 in
theorem differ_any {F : Fix} (hF : FixOk F) {known : Nat} {x : Sexp} (hT : ∀ y ∈ x.l, ∀ z ∈ y.l, TermC F known z) {w : World} {st : St} {At : Option Addr} {ct : Nat} (hm : Mk F w known st At ct) (name : ByteArray) (hnm : (name.size : Int) ≤ 140737488351232) {A : Option Addr} {c : Nat} (hx : XAt F.W0 A c x) {p : Option Addr} {env : Env} (he : EnvS F w p env) :
  Calls Tryz.prog 81 #[.pointer (some ⟨F.mb, 0, none⟩), .string name, .agg #[.int .i8 x.kind, .string x.text, .slice A x.l.length c], .pointer p] w (DfPost F known w st.t At (diffO F.c (fun y => termP F.c known y env) name x st).1 (diffO F.c (fun y => termP F.c known y env) name x st).2) := by
 have HT := kp hT
 have HX := kp hx
 have HE := kp he
 have hlt := hm.lt
 have B1 := kp ((Below.refl w.heap.size w).alloc (Nat.le_refl _) (.cells #[.int .i8 x.kind, .string x.text, .slice A x.l.length c] 30))
 have Z1 := kp (show (w.alloc (.cells #[.int .i8 x.kind, .string x.text, .slice A x.l.length c] 30)).heap.size = w.heap.size + 1 by simp)
 have D1 := kp (Mid.newOn hm B1.out)
 have X1 := kp (Bk.keep (Bk.new w (.cells #[.int .i8 x.kind, .string x.text, .slice A x.l.length c] 30)) (.cells #[.int .i64 0, .int .i64 0] 69))
 rw [Z1.out] at D1
 generalize hr : (fun y => termP F.c known y env) = r
 have HRf := kp (fun y s => show termP F.c known y env s = r y s by rw [← hr])
 have HS := kp (show diffO F.c r name x st = if differsN name x = 1 then (((diffLM F.c r name x st).1, true), (diffLM F.c r name x st).2)
  else if differsN name x = 2 then (((diffRM F.c r name x st).1, true), (diffRM F.c r name x st).2)
  else ((v0, false), st) from rfl)
 have HD := kp (show differsN name x = if x.l.length = 3 ∧ comparesB name = true then (if minusB (nthX x 1) && isNumX (nthX x 2) then 1 else if minusB (nthX x 2) && isNumX (nthX x 1) then 2 else 0) else 0 from rfl)
 have HDL := kp (show diffLM F.c r name x st = heldM F.c name (r (nthX (nthX x 1) 1) st).1 (r (nthX (nthX x 1) 2) (r (nthX (nthX x 1) 1) st).2).1 (numberM F.c (nthX x 2) (r (nthX (nthX x 1) 2) (r (nthX (nthX x 1) 1) st).2).2).1 (numberM F.c (nthX x 2) (r (nthX (nthX x 1) 2) (r (nthX (nthX x 1) 1) st).2).2).2 from rfl)
 have HDR := kp (show diffRM F.c r name x st = heldM F.c (turnN name) (r (nthX (nthX x 2) 1) (numberM F.c (nthX x 1) st).2).1 (r (nthX (nthX x 2) 2) (r (nthX (nthX x 2) 1) (numberM F.c (nthX x 1) st).2).2).1 (numberM F.c (nthX x 1) st).1 (r (nthX (nthX x 2) 2) (r (nthX (nthX x 2) 1) (numberM F.c (nthX x 1) st).2).2).2 from rfl)
 clear hm hr hT hx he
 generalize diffO F.c r name x st = res at *
 generalize diffLM F.c r name x st = resL at *
 generalize diffRM F.c r name x st = resR at *
 generalize differsN name x = dn at *
 have DZ := kp (D1.out.alloc (.cells #[.string { data := #[60, 61] }, .string { data := #[60] }, .string { data := #[62, 61] }, .string { data := #[62] }, .string { data := #[61] }] 9))
 have XZ := kp (Bk.keep X1.out (.cells #[.string { data := #[60, 61] }, .string { data := #[60] }, .string { data := #[62, 61] }, .string { data := #[62] }, .string { data := #[61] }] 9))
 have SZ := kp (Bk.new ((w.alloc (.cells #[.int .i8 x.kind, .string x.text, .slice A x.l.length c] 30)).alloc (.cells #[.int .i64 0, .int .i64 0] 69)) (.cells #[.string { data := #[60, 61] }, .string { data := #[60] }, .string { data := #[62, 61] }, .string { data := #[62] }, .string { data := #[61] }] 9))
 go_enter Tryz.func81, Tryz.ntmps81
 go_upto_region 1 with fail
 generalize (w.alloc (.cells #[.int .i8 x.kind, .string x.text, .slice A x.l.length c] 30)).alloc (.cells #[.int .i64 0, .int .i64 0] 69) = w1 at *
 have HCo := kp (fun W (hW : Below (w1.alloc (.cells #[.string { data := #[60, 61] }, .string { data := #[60] }, .string { data := #[62, 61] }, .string { data := #[62] }, .string { data := #[61] }] 9)).heap.size (w1.alloc (.cells #[.string { data := #[60, 61] }, .string { data := #[60] }, .string { data := #[62, 61] }, .string { data := #[62] }, .string { data := #[61] }] 9)) W) =>
  Tryz.slices_Contains_string w1.heap.size 0 5 5 [sLe, sLt, sGe, sGt, sEq] name W (by decide) (by decide) (fun j hj => by
   obtain ⟨c0, c1, c2, c3, c4, _⟩ := Bk.c5 (Bk.on SZ.out hW)
   match j, hj with
   | 0, _ => exact c0
   | 1, _ => exact c1
   | 2, _ => exact c2
   | 3, _ => exact c3
   | 4, _ => exact c4))
 rw [contains_cmp] at HCo
 obtain ⟨q0, q1, q2, qf⟩ := Bk.c3 X1.out
 by_cases h3 : x.l.length = 3
 ·have g2 : ((x.l.length : Int) != 3) = false := by rw [h3]; rfl
  cases hcm : comparesB name with
  | true =>
   replace HD := kp (HD.out.trans (if_pos ⟨h3, hcm⟩))
   rw [hcm] at HCo
   obtain ⟨b, o, A1, c1, hA, hx1, hc1⟩ := nth_xs HX.out (i := 1) (by omega)
   obtain ⟨b', o', A2, c2, hA2, hx2, hc2⟩ := nth_xs HX.out (i := 2) (by omega)
   subst hA
   simp only [Option.some.injEq, Addr.mk.injEq, and_true] at hA2
   obtain ⟨rfl, rfl⟩ := hA2
   have HX1 := kp hx1
   have HX2 := kp hx2
   have HC1 := kp hc1
   have HC2 := kp hc2
   have HM1 := kp (nth_mem (x := x) (i := 1) (by omega))
   have HM2 := kp (nth_mem (x := x) (i := 2) (by omega))
   have g3 : (2 : Int) < (x.l.length : Int) := by omega
   have g4 : (1 : Int) < (x.l.length : Int) := by omega
   have HCm := kp hcm
   clear h3 hcm hx1 hx2 hc1 hc2
   generalize nthX x 1 = y1 at *
   generalize nthX x 2 = y2 at *
   go_wp2_with fail
   refine (HCo.out _ (Below.refl _ _)).mono ?_
   rintro e w2 ⟨rfl, rfl⟩
   clear q0 q1 q2 qf HCo SZ
   go_upto_region 3 with fail
   generalize w1.alloc (.cells #[.string { data := #[60, 61] }, .string { data := #[60] }, .string { data := #[62, 61] }, .string { data := #[62] }, .string { data := #[61] }] 9) = wz at *
   clear D1 X1
   go_cut [10, 11] from 29 to 36 (fun v10 v11 W => ∃ lb rr, v10 = .pointer (some ⟨lb, 0, none⟩) ∧ v11 = .pointer (some ⟨rr, 0, none⟩) ∧ BxQ wz A1 c1 y1 A2 c2 y2 lb rr W)
   case first =>
    have B0 := kp (Below.refl wz.heap.size wz).drew
    have HX0 := kp (fun (W : World) (hW : Below wz.heap.size wz W) => Bk.on XZ.out hW)
    have HY1 := kp (fun (W : World) (hW : Below wz.heap.size wz W) => HC1.out W (DZ.out.below hW).maker.below)
    have HY2 := kp (fun (W : World) (hW : Below wz.heap.size wz W) => HC2.out W (DZ.out.below hW).maker.below)
    refine wp_region_held_drew (S := fun W => Below wz.heap.size wz W) (by kernel_rfl) (B0.out) (fun hHeld => ?_)
    refine tk 0 (v := ?_) ?_ ?_
    rotate_left
    ·(intro w hSw; go_simp; try with_reducible rfl)
    try simp only [pt]
    refine tk 1 (v := ?_) ?_ ?_
    rotate_left
    ·(intro w hSw; (obtain ⟨q0, q1, q2, qf⟩ := Bk.c3 (HX0.out _ hSw); go_simp; try with_reducible rfl))
    try simp only [pt]
    refine tk 2 (v := ?_) ?_ ?_
    rotate_left
    ·(intro w hSw; go_simp; try with_reducible rfl)
    try simp only [pt]
    refine tk 3 (v := ?_) ?_ ?_
    rotate_left
    ·(intro w hSw; (obtain ⟨q0, q1, q2⟩ := HY1.out _ hSw; go_simp; try with_reducible rfl))
    try simp only [pt]
    refine tk 4 (v := ?_) ?_ ?_
    rotate_left
    ·(intro w hSw; go_simp; try with_reducible rfl)
    try simp only [pt]
    refine tk 5 (v := ?_) ?_ ?_
    rotate_left
    ·(intro w hSw; (obtain ⟨q0, q1, q2, qf⟩ := Bk.c3 (HX0.out _ hSw); go_simp; try with_reducible rfl))
    try simp only [pt]
    refine tk 6 (v := ?_) ?_ ?_
    rotate_left
    ·(intro w hSw; go_simp; try with_reducible rfl)
    try simp only [pt]
    refine tk 7 (v := ?_) ?_ ?_
    rotate_left
    ·(intro w hSw; (obtain ⟨q0, q1, q2⟩ := HY2.out _ hSw; go_simp; try with_reducible rfl))
    try simp only [pt]
    generalize hwd : World.drew _ = wd at *
    clear hwd
    have HZ0 := kp (B0.out.alloc B0.out.size (.cells #[.int .i8 0, .string { data := #[] }, .slice none 0 0] 30))
    refine wpAnyH_ready (rs := [8, 9]) (by kernel_rfl) (by simp) ?_
    refine AllReadyH.cons (o := Oper.mk _ _ _ _ _ _) rfl (fun K hK => ?_) (AllReadyH.cons (o := Oper.mk _ _ _ _ _ _) rfl (fun K hK => ?_) AllReadyH.nil)
    all_goals go_simp
    all_goals refine hK.out _ _ (HZ0.out) (fun hHeld => ?_)
    all_goals clear hK K
    all_goals try simp only [pt]
    ·skip
     have L1 := kp (Bk.new wd (.cells #[.int .i8 0, .string { data := #[] }, .slice none 0 0] 30))
     have hl1 := B0.out.size
     generalize wd.alloc (.cells #[.int .i8 0, .string { data := #[] }, .slice none 0 0] 30) = u1 at *
     generalize wd.heap.size = z1 at *
     have HZ2 := kp (HZ0.out.alloc HZ0.out.size (.cells #[.int .i8 0, .string { data := #[] }, .slice none 0 0] 30))
     have R2 := kp (Bk.new u1 (.cells #[.int .i8 0, .string { data := #[] }, .slice none 0 0] 30))
     have hl2 := HZ0.out.size
     refine rd 9 fun K hK => ?_
     go_simp
     refine hK.out _ _ (HZ2.out) (fun hHeld => ?_)
     clear hK K
     try simp only [pt]
     have hne := Nat.ne_of_lt (lt_of_block L1.out)
     have L2 := kp (Bk.keep L1.out (.cells #[.int .i8 0, .string { data := #[] }, .slice none 0 0] 30))
     generalize u1.alloc (.cells #[.int .i8 0, .string { data := #[] }, .slice none 0 0] 30) = u2 at *
     generalize u1.heap.size = z2 at *
     have QB := kp (box_made (A1 := A1) (c1 := c1) (y1 := y1) (A2 := A2) (c2 := c2) (y2 := y2) HZ2.out L2.out R2.out hne hl1 hl2)
     have hne' := Ne.symm hne
     obtain ⟨a0, a1, a2, af⟩ := Bk.c3 L2.out
     obtain ⟨b0, b1, b2, bf⟩ := Bk.c3 R2.out
     refine rd 10 fun K hK => ?_
     go_simp
     refine hK.out _ _ ((((HZ2.out.setCell (p := ⟨z1, 0, none⟩) (by show _ ≤ z1; assumption) _).setCell (p := ⟨z1, 1, none⟩) (by show _ ≤ z1; assumption) _).setCell (p := ⟨z1, 2, none⟩) (by show _ ≤ z1; assumption) _)) (fun hHeld => ?_)
     clear hK K
     try simp only [pt]
     refine rd 11 fun K hK => ?_
     go_simp
     refine hK.out _ _ (QB.out.2.2.2.2) (fun hHeld => ?_)
     clear hK K
     try simp only [pt]
     refine wpAnyH_done (by kernel_rfl) ?_ _
     go_wp2_with fail
     go_meet
     exact ⟨_, _, rfl, rfl, QB.out⟩
    ·skip
     have L1 := kp (Bk.new wd (.cells #[.int .i8 0, .string { data := #[] }, .slice none 0 0] 30))
     have hl1 := B0.out.size
     generalize wd.alloc (.cells #[.int .i8 0, .string { data := #[] }, .slice none 0 0] 30) = u1 at *
     generalize wd.heap.size = z1 at *
     have HZ2 := kp (HZ0.out.alloc HZ0.out.size (.cells #[.int .i8 0, .string { data := #[] }, .slice none 0 0] 30))
     have R2 := kp (Bk.new u1 (.cells #[.int .i8 0, .string { data := #[] }, .slice none 0 0] 30))
     have hl2 := HZ0.out.size
     refine rd 8 fun K hK => ?_
     go_simp
     refine hK.out _ _ (HZ2.out) (fun hHeld => ?_)
     clear hK K
     try simp only [pt]
     have hne := Nat.ne_of_gt (lt_of_block L1.out)
     have L2 := kp (Bk.keep L1.out (.cells #[.int .i8 0, .string { data := #[] }, .slice none 0 0] 30))
     generalize u1.alloc (.cells #[.int .i8 0, .string { data := #[] }, .slice none 0 0] 30) = u2 at *
     generalize u1.heap.size = z2 at *
     have QB := kp (box_made (A1 := A1) (c1 := c1) (y1 := y1) (A2 := A2) (c2 := c2) (y2 := y2) HZ2.out R2.out L2.out hne hl2 hl1)
     have hne' := Ne.symm hne
     obtain ⟨a0, a1, a2, af⟩ := Bk.c3 L2.out
     obtain ⟨b0, b1, b2, bf⟩ := Bk.c3 R2.out
     refine rd 10 fun K hK => ?_
     go_simp
     refine hK.out _ _ ((((HZ2.out.setCell (p := ⟨z2, 0, none⟩) (by show _ ≤ z2; assumption) _).setCell (p := ⟨z2, 1, none⟩) (by show _ ≤ z2; assumption) _).setCell (p := ⟨z2, 2, none⟩) (by show _ ≤ z2; assumption) _)) (fun hHeld => ?_)
     clear hK K
     try simp only [pt]
     refine rd 11 fun K hK => ?_
     go_simp
     refine hK.out _ _ (QB.out.2.2.2.2) (fun hHeld => ?_)
     clear hK K
     try simp only [pt]
     refine wpAnyH_done (by kernel_rfl) ?_ _
     go_wp2_with fail
     go_meet
     exact ⟨_, _, rfl, rfl, QB.out⟩
   case rest =>
    obtain ⟨lb, rr, rfl, rfl, hq⟩ := hcut
    have DB := kp (DZ.out.below hq.2.2.2.2)
    have LB := kp hq.1
    have RB := kp hq.2.1
    have hlw := DZ.out.keeps.size
    have hlb := Nat.le_trans hlw hq.2.2.1
    have hrr := Nat.le_trans hlw hq.2.2.2.1
    clear hq DZ XZ
    generalize hwb : wc = wb at *
    clear hwb
    have HMi := kp (minus_any (HX1.out.on DB.out.maker.below))
    have HMl := kp (minus_len (x := y1))
    obtain ⟨q0, q1, q2, qf⟩ := Bk.c3 LB.out
    cases hm1 : minusB y1 with
    | true =>
     rw [hm1] at HMi HD
     have h3 := HMl.out hm1
     have k3 : (2 : Int) < (y1.l.length : Int) := by omega
     have k4 : (1 : Int) < (y1.l.length : Int) := by omega
     clear h3 hm1
     go_wp2_with fail
     refine HMi.out.mono ?_
     rintro e w2 ⟨rfl, hb2⟩
     have D2 := kp (DB.out.below hb2)
     have L2 := kp (Bk.on LB.out hb2)
     have R2 := kp (Bk.on RB.out hb2)
     clear hb2 q0 q1 q2 qf HMi
     have HNu := kp (isnum_any (HX2.out.on D2.out.maker.below))
     obtain ⟨q0, q1, q2, qf⟩ := Bk.c3 R2.out
     cases hn2 : isNumX y2 with
     | true =>
      rw [hn2] at HNu HD
      replace HS := kp (show res = ((resL.1, true), resL.2) by rw [HS.out, if_pos (show dn = 1 from HD.out)])
      go_wp2_with fail
      refine HNu.out.mono ?_
      rintro e w3 ⟨rfl, hb3⟩
      have D3 := kp (D2.out.below hb3)
      have L3 := kp (Bk.on L2.out hb3)
      have R3 := kp (Bk.on R2.out hb3)
      clear hb3 q0 q1 q2 qf HNu hn2
      go_upto_region 6 with fail
      clear DB D2 LB L2 RB R2
      have E0 := kp (show Dm F known w st.t At (w.heap.size + 1) w3 w3.drew st At ct from ⟨D3.out.drew, (Keeps.refl _ _).drew, D3.out.size, D3.out.keeps.size⟩)
      have hy1 : 1 < y1.l.length := by omega
      have hy2 : 2 < y1.l.length := by omega
      obtain ⟨bz, oz, Az1, cz1, hAz, hxz1, hcz1⟩ := nth_xs HX1.out hy1
      obtain ⟨bz', oz', Az2, cz2, hAz2, hxz2, hcz2⟩ := nth_xs HX1.out hy2
      subst hAz
      simp only [Option.some.injEq, Addr.mk.injEq, and_true] at hAz2
      obtain ⟨rfl, rfl⟩ := hAz2
      have HMz1 := kp (nth_mem hy1)
      have HMz2 := kp (nth_mem hy2)
      have HXz1 := kp hxz1
      have HXz2 := kp hxz2
      have HZz1 := kp (fun (W : World) (hW : Keeps (onMb F) w3 W) => hcz1 W (below_mb hF D3.out.maker.below hW))
      have HZz2 := kp (fun (W : World) (hW : Keeps (onMb F) w3 W) => hcz2 W (below_mb hF D3.out.maker.below hW))
      have HBx := kp (fun (W : World) (hW : Keeps (onMb F) w3 W) => D3.out.blk hW L3.out hlb)
      clear hy1 hy2 hxz1 hxz2 hcz1 hcz2
      generalize nthX y1 1 = zz1 at *
      generalize nthX y1 2 = zz2 at *
      obtain ⟨pv, ps, hra⟩ : ∃ pv ps, r zz1 st = (pv, ps) := ⟨_, _, rfl⟩
      obtain ⟨qv, qs, hrb⟩ : ∃ qv qs, r zz2 ps = (qv, qs) := ⟨_, _, rfl⟩
      have HRa := kp hra
      have HRb := kp hrb
      clear hra hrb
      have HC1 := kp (fun (W : World) (A' : Option Addr) (c' : Nat) (h : Dm F known w st.t At (w.heap.size + 1) w3 W st A' c') => show Calls Tryz.prog 29 #[.pointer (some ⟨F.mb, 0, none⟩), .agg #[.int .i8 zz1.kind, .string zz1.text, .slice Az1 zz1.l.length cz1], .pointer p] W (MkPost F known W st.t A' pv ps) by
       have := HT.out _ HM1.out _ HMz1.out h.mid.maker HXz1.out (HE.out.on h.mid.keeps)
       rwa [HRf.out, HRa.out] at this)
      have HC2 := kp (fun (W : World) (A' : Option Addr) (c' : Nat) (h : Dm F known w st.t At (w.heap.size + 1) w3 W ps A' c') => show Calls Tryz.prog 29 #[.pointer (some ⟨F.mb, 0, none⟩), .agg #[.int .i8 zz2.kind, .string zz2.text, .slice Az2 zz2.l.length cz2], .pointer p] W (MkPost F known W ps.t A' qv qs) by
       have := HT.out _ HM1.out _ HMz2.out h.mid.maker HXz2.out (HE.out.on h.mid.keeps)
       rwa [HRf.out, HRb.out] at this)
      go_cut [13, 14] from 44 to 57 (fun v13 v14 W => ∃ ab bb, v13 = .pointer (some ⟨ab, 0, none⟩) ∧ v14 = .pointer (some ⟨bb, 0, none⟩) ∧ DfQ F known w st.t At (w.heap.size + 1) w3 pv qv qs ab bb W)
      case first =>
       refine wp_region_held_drew (S := fun W => Keeps (onMb F) w3 W) (by kernel_rfl) (E0.out.keepsW) (fun hHeld => ?_)
       refine tk 0 (v := ?_) ?_ ?_
       rotate_left
       ·(intro w hSw; go_simp; try with_reducible rfl)
       try simp only [pt]
       refine tk 1 (v := ?_) ?_ ?_
       rotate_left
       ·(intro w hSw; go_simp; try with_reducible rfl)
       try simp only [pt]
       refine tk 2 (v := ?_) ?_ ?_
       rotate_left
       ·(intro w hSw; (obtain ⟨q0, q1, q2, qf⟩ := Bk.c3 (HBx.out _ hSw); go_simp; try with_reducible rfl))
       try simp only [pt]
       refine tk 3 (v := ?_) ?_ ?_
       rotate_left
       ·(intro w hSw; go_simp; try with_reducible rfl)
       try simp only [pt]
       refine tk 4 (v := ?_) ?_ ?_
       rotate_left
       ·(intro w hSw; (obtain ⟨q0, q1, q2⟩ := HZz1.out _ hSw; go_simp; try with_reducible rfl))
       try simp only [pt]
       refine tk 5 (v := ?_) ?_ ?_
       rotate_left
       ·(intro w hSw; go_simp; try with_reducible rfl)
       try simp only [pt]
       refine tk 7 (v := ?_) ?_ ?_
       rotate_left
       ·(intro w hSw; go_simp; try with_reducible rfl)
       try simp only [pt]
       refine tk 8 (v := ?_) ?_ ?_
       rotate_left
       ·(intro w hSw; go_simp; try with_reducible rfl)
       try simp only [pt]
       refine tk 9 (v := ?_) ?_ ?_
       rotate_left
       ·(intro w hSw; (obtain ⟨q0, q1, q2, qf⟩ := Bk.c3 (HBx.out _ hSw); go_simp; try with_reducible rfl))
       try simp only [pt]
       refine tk 10 (v := ?_) ?_ ?_
       rotate_left
       ·(intro w hSw; go_simp; try with_reducible rfl)
       try simp only [pt]
       refine tk 11 (v := ?_) ?_ ?_
       rotate_left
       ·(intro w hSw; (obtain ⟨q0, q1, q2⟩ := HZz2.out _ hSw; go_simp; try with_reducible rfl))
       try simp only [pt]
       refine tk 12 (v := ?_) ?_ ?_
       rotate_left
       ·(intro w hSw; go_simp; try with_reducible rfl)
       try simp only [pt]
       generalize hwd : World.drew _ = wd at *
       clear hwd
       refine wpAnyH_ready (rs := [6, 14, 15]) (by kernel_rfl) (by simp) ?_
       refine AllReadyH.cons (o := Oper.mk _ _ _ _ _ _) rfl (fun K hK => ?_) (AllReadyH.cons (o := Oper.mk _ _ _ _ _ _) rfl (fun K hK => ?_) (AllReadyH.cons (o := Oper.mk _ _ _ _ _ _) rfl (fun K hK => ?_) (AllReadyH.nil)))
       ·go_simp
        refine (HC1.out _ _ _ E0.out).mono ?_
        rintro e u1 ⟨rfl, hv, hk7, A7, c7, hm7, ht7⟩
        have E1 := kp (E0.out.call hk7 hm7 ht7)
        have VP := kp hv
        unfold valV
        clear hv hk7 hm7 ht7
        refine hK.out _ _ E1.out.keepsW (fun hHeld => ?_)
        clear hK K
        refine wpAnyH_ready (rs := [13, 14, 15]) (by kernel_rfl) (by simp) ?_
        refine AllReadyH.cons (o := Oper.mk _ _ _ _ _ _) rfl (fun K hK => ?_) (AllReadyH.cons (o := Oper.mk _ _ _ _ _ _) rfl (fun K hK => ?_) (AllReadyH.cons (o := Oper.mk _ _ _ _ _ _) rfl (fun K hK => ?_) (AllReadyH.nil)))
        ·go_simp
         refine (HC2.out _ _ _ E1.out).mono ?_
         rintro e u2 ⟨rfl, hv, hk7, A7, c7, hm7, ht7⟩
         have E2 := kp (E1.out.call hk7 hm7 ht7)
         have VQ := kp hv
         unfold valV
         clear hv hk7 hm7 ht7
         refine hK.out _ _ E2.out.keepsW (fun hHeld => ?_)
         clear hK K
         refine wpAnyH_ready (rs := [14, 15]) (by kernel_rfl) (by simp) ?_
         refine AllReadyH.cons (o := Oper.mk _ _ _ _ _ _) rfl (fun K hK => ?_) (AllReadyH.cons (o := Oper.mk _ _ _ _ _ _) rfl (fun K hK => ?_) (AllReadyH.nil))
         ·go_simp
          have E3 := kp (E2.out.alloc (.cells #[.int .i64 0, .int .i64 0] 69))
          have Pa := kp (Ab.new E2.out)
          refine hK.out _ _ E3.out.keepsW (fun hHeld => ?_)
          clear hK K
          try simp only [pt]
          generalize World.alloc u2 (.cells #[.int .i64 0, .int .i64 0] 69) = u3 at *
          generalize u2.heap.size = z3 at *
          refine rd 15 fun K hK => ?_
          ·go_simp
           have E4 := kp (E3.out.alloc (.cells #[.int .i64 0, .int .i64 0] 69))
           have Pb := kp (Ab.new E3.out)
           have Hne := kp (show _ ≠ u3.heap.size from (Nat.ne_of_lt Pa.out.lt))
           replace Pa := kp (Pa.out.alloc (.cells #[.int .i64 0, .int .i64 0] 69))
           refine hK.out _ _ E4.out.keepsW (fun hHeld => ?_)
           clear hK K
           try simp only [pt]
           generalize World.alloc u3 (.cells #[.int .i64 0, .int .i64 0] 69) = u4 at *
           generalize u3.heap.size = z4 at *
           obtain ⟨a0, a1, af⟩ := Bk.c2 Pa.out.cell
           have Q16 := kp (E4.out.fin hF Pa.out Pb.out Hne.out VP.out VQ.out)
           obtain ⟨b0, b1, bf⟩ := Bk.c2 Pb.out.cell
           have hne1 := Hne.out
           have hne2 := Ne.symm hne1
           refine rd 16 fun K hK => ?_
           go_simp
           refine hK.out _ _ ((E4.out.setK Pa.out pv)) (fun hHeld => ?_)
           clear hK K
           try simp only [pt]
           refine rd 17 fun K hK => ?_
           go_simp
           refine hK.out _ _ (((E4.out.setK2 Pa.out Pb.out pv qv))) (fun hHeld => ?_)
           clear hK K
           try simp only [pt]
           refine wpAnyH_done (by kernel_rfl) ?_ _
           go_wp2_with fail
           go_meet
           exact ⟨_, _, rfl, rfl, Q16.out⟩
         ·go_simp
          have E5 := kp (E2.out.alloc (.cells #[.int .i64 0, .int .i64 0] 69))
          have Pb := kp (Ab.new E2.out)
          refine hK.out _ _ E5.out.keepsW (fun hHeld => ?_)
          clear hK K
          try simp only [pt]
          generalize World.alloc u2 (.cells #[.int .i64 0, .int .i64 0] 69) = u5 at *
          generalize u2.heap.size = z5 at *
          refine rd 14 fun K hK => ?_
          ·go_simp
           have E6 := kp (E5.out.alloc (.cells #[.int .i64 0, .int .i64 0] 69))
           have Pa := kp (Ab.new E5.out)
           have Hne := kp (show u5.heap.size ≠ _ from (Ne.symm (Nat.ne_of_lt Pb.out.lt)))
           replace Pb := kp (Pb.out.alloc (.cells #[.int .i64 0, .int .i64 0] 69))
           refine hK.out _ _ E6.out.keepsW (fun hHeld => ?_)
           clear hK K
           try simp only [pt]
           generalize World.alloc u5 (.cells #[.int .i64 0, .int .i64 0] 69) = u6 at *
           generalize u5.heap.size = z6 at *
           obtain ⟨a0, a1, af⟩ := Bk.c2 Pa.out.cell
           have Q16 := kp (E6.out.fin hF Pa.out Pb.out Hne.out VP.out VQ.out)
           obtain ⟨b0, b1, bf⟩ := Bk.c2 Pb.out.cell
           have hne1 := Hne.out
           have hne2 := Ne.symm hne1
           refine rd 16 fun K hK => ?_
           go_simp
           refine hK.out _ _ ((E6.out.setK Pa.out pv)) (fun hHeld => ?_)
           clear hK K
           try simp only [pt]
           refine rd 17 fun K hK => ?_
           go_simp
           refine hK.out _ _ (((E6.out.setK2 Pa.out Pb.out pv qv))) (fun hHeld => ?_)
           clear hK K
           try simp only [pt]
           refine wpAnyH_done (by kernel_rfl) ?_ _
           go_wp2_with fail
           go_meet
           exact ⟨_, _, rfl, rfl, Q16.out⟩
        ·go_simp
         have E7 := kp (E1.out.alloc (.cells #[.int .i64 0, .int .i64 0] 69))
         have Pa := kp (Ab.new E1.out)
         refine hK.out _ _ E7.out.keepsW (fun hHeld => ?_)
         clear hK K
         try simp only [pt]
         generalize World.alloc u1 (.cells #[.int .i64 0, .int .i64 0] 69) = u7 at *
         generalize u1.heap.size = z7 at *
         refine wpAnyH_ready (rs := [13, 15]) (by kernel_rfl) (by simp) ?_
         refine AllReadyH.cons (o := Oper.mk _ _ _ _ _ _) rfl (fun K hK => ?_) (AllReadyH.cons (o := Oper.mk _ _ _ _ _ _) rfl (fun K hK => ?_) (AllReadyH.nil))
         ·go_simp
          refine (HC2.out _ _ _ E7.out).mono ?_
          rintro e u8 ⟨rfl, hv, hk7, A7, c7, hm7, ht7⟩
          have E8 := kp (E7.out.call hk7 hm7 ht7)
          replace Pa := kp (Pa.out.call E7.out hk7 ht7)
          have VQ := kp hv
          unfold valV
          clear hv hk7 hm7 ht7
          refine hK.out _ _ E8.out.keepsW (fun hHeld => ?_)
          clear hK K
          refine rd 15 fun K hK => ?_
          ·go_simp
           have E9 := kp (E8.out.alloc (.cells #[.int .i64 0, .int .i64 0] 69))
           have Pb := kp (Ab.new E8.out)
           have Hne := kp (show _ ≠ u8.heap.size from (Nat.ne_of_lt Pa.out.lt))
           replace Pa := kp (Pa.out.alloc (.cells #[.int .i64 0, .int .i64 0] 69))
           refine hK.out _ _ E9.out.keepsW (fun hHeld => ?_)
           clear hK K
           try simp only [pt]
           generalize World.alloc u8 (.cells #[.int .i64 0, .int .i64 0] 69) = u9 at *
           generalize u8.heap.size = z9 at *
           obtain ⟨a0, a1, af⟩ := Bk.c2 Pa.out.cell
           have Q16 := kp (E9.out.fin hF Pa.out Pb.out Hne.out VP.out VQ.out)
           obtain ⟨b0, b1, bf⟩ := Bk.c2 Pb.out.cell
           have hne1 := Hne.out
           have hne2 := Ne.symm hne1
           refine rd 16 fun K hK => ?_
           go_simp
           refine hK.out _ _ ((E9.out.setK Pa.out pv)) (fun hHeld => ?_)
           clear hK K
           try simp only [pt]
           refine rd 17 fun K hK => ?_
           go_simp
           refine hK.out _ _ (((E9.out.setK2 Pa.out Pb.out pv qv))) (fun hHeld => ?_)
           clear hK K
           try simp only [pt]
           refine wpAnyH_done (by kernel_rfl) ?_ _
           go_wp2_with fail
           go_meet
           exact ⟨_, _, rfl, rfl, Q16.out⟩
         ·go_simp
          have E10 := kp (E7.out.alloc (.cells #[.int .i64 0, .int .i64 0] 69))
          have Pb := kp (Ab.new E7.out)
          have Hne := kp (show _ ≠ u7.heap.size from (Nat.ne_of_lt Pa.out.lt))
          replace Pa := kp (Pa.out.alloc (.cells #[.int .i64 0, .int .i64 0] 69))
          refine hK.out _ _ E10.out.keepsW (fun hHeld => ?_)
          clear hK K
          try simp only [pt]
          generalize World.alloc u7 (.cells #[.int .i64 0, .int .i64 0] 69) = u10 at *
          generalize u7.heap.size = z10 at *
          refine rd 13 fun K hK => ?_
          ·go_simp
           refine (HC2.out _ _ _ E10.out).mono ?_
           rintro e u11 ⟨rfl, hv, hk7, A7, c7, hm7, ht7⟩
           have E11 := kp (E10.out.call hk7 hm7 ht7)
           replace Pa := kp (Pa.out.call E10.out hk7 ht7)
           replace Pb := kp (Pb.out.call E10.out hk7 ht7)
           have VQ := kp hv
           unfold valV
           clear hv hk7 hm7 ht7
           refine hK.out _ _ E11.out.keepsW (fun hHeld => ?_)
           clear hK K
           obtain ⟨a0, a1, af⟩ := Bk.c2 Pa.out.cell
           have Q16 := kp (E11.out.fin hF Pa.out Pb.out Hne.out VP.out VQ.out)
           obtain ⟨b0, b1, bf⟩ := Bk.c2 Pb.out.cell
           have hne1 := Hne.out
           have hne2 := Ne.symm hne1
           refine rd 16 fun K hK => ?_
           go_simp
           refine hK.out _ _ ((E11.out.setK Pa.out pv)) (fun hHeld => ?_)
           clear hK K
           try simp only [pt]
           refine rd 17 fun K hK => ?_
           go_simp
           refine hK.out _ _ (((E11.out.setK2 Pa.out Pb.out pv qv))) (fun hHeld => ?_)
           clear hK K
           try simp only [pt]
           refine wpAnyH_done (by kernel_rfl) ?_ _
           go_wp2_with fail
           go_meet
           exact ⟨_, _, rfl, rfl, Q16.out⟩
        ·go_simp
         have E12 := kp (E1.out.alloc (.cells #[.int .i64 0, .int .i64 0] 69))
         have Pb := kp (Ab.new E1.out)
         refine hK.out _ _ E12.out.keepsW (fun hHeld => ?_)
         clear hK K
         try simp only [pt]
         generalize World.alloc u1 (.cells #[.int .i64 0, .int .i64 0] 69) = u12 at *
         generalize u1.heap.size = z12 at *
         refine wpAnyH_ready (rs := [13, 14]) (by kernel_rfl) (by simp) ?_
         refine AllReadyH.cons (o := Oper.mk _ _ _ _ _ _) rfl (fun K hK => ?_) (AllReadyH.cons (o := Oper.mk _ _ _ _ _ _) rfl (fun K hK => ?_) (AllReadyH.nil))
         ·go_simp
          refine (HC2.out _ _ _ E12.out).mono ?_
          rintro e u13 ⟨rfl, hv, hk7, A7, c7, hm7, ht7⟩
          have E13 := kp (E12.out.call hk7 hm7 ht7)
          replace Pb := kp (Pb.out.call E12.out hk7 ht7)
          have VQ := kp hv
          unfold valV
          clear hv hk7 hm7 ht7
          refine hK.out _ _ E13.out.keepsW (fun hHeld => ?_)
          clear hK K
          refine rd 14 fun K hK => ?_
          ·go_simp
           have E14 := kp (E13.out.alloc (.cells #[.int .i64 0, .int .i64 0] 69))
           have Pa := kp (Ab.new E13.out)
           have Hne := kp (show u13.heap.size ≠ _ from (Ne.symm (Nat.ne_of_lt Pb.out.lt)))
           replace Pb := kp (Pb.out.alloc (.cells #[.int .i64 0, .int .i64 0] 69))
           refine hK.out _ _ E14.out.keepsW (fun hHeld => ?_)
           clear hK K
           try simp only [pt]
           generalize World.alloc u13 (.cells #[.int .i64 0, .int .i64 0] 69) = u14 at *
           generalize u13.heap.size = z14 at *
           obtain ⟨a0, a1, af⟩ := Bk.c2 Pa.out.cell
           have Q16 := kp (E14.out.fin hF Pa.out Pb.out Hne.out VP.out VQ.out)
           obtain ⟨b0, b1, bf⟩ := Bk.c2 Pb.out.cell
           have hne1 := Hne.out
           have hne2 := Ne.symm hne1
           refine rd 16 fun K hK => ?_
           go_simp
           refine hK.out _ _ ((E14.out.setK Pa.out pv)) (fun hHeld => ?_)
           clear hK K
           try simp only [pt]
           refine rd 17 fun K hK => ?_
           go_simp
           refine hK.out _ _ (((E14.out.setK2 Pa.out Pb.out pv qv))) (fun hHeld => ?_)
           clear hK K
           try simp only [pt]
           refine wpAnyH_done (by kernel_rfl) ?_ _
           go_wp2_with fail
           go_meet
           exact ⟨_, _, rfl, rfl, Q16.out⟩
         ·go_simp
          have E15 := kp (E12.out.alloc (.cells #[.int .i64 0, .int .i64 0] 69))
          have Pa := kp (Ab.new E12.out)
          have Hne := kp (show u12.heap.size ≠ _ from (Ne.symm (Nat.ne_of_lt Pb.out.lt)))
          replace Pb := kp (Pb.out.alloc (.cells #[.int .i64 0, .int .i64 0] 69))
          refine hK.out _ _ E15.out.keepsW (fun hHeld => ?_)
          clear hK K
          try simp only [pt]
          generalize World.alloc u12 (.cells #[.int .i64 0, .int .i64 0] 69) = u15 at *
          generalize u12.heap.size = z15 at *
          refine rd 13 fun K hK => ?_
          ·go_simp
           refine (HC2.out _ _ _ E15.out).mono ?_
           rintro e u16 ⟨rfl, hv, hk7, A7, c7, hm7, ht7⟩
           have E16 := kp (E15.out.call hk7 hm7 ht7)
           replace Pa := kp (Pa.out.call E15.out hk7 ht7)
           replace Pb := kp (Pb.out.call E15.out hk7 ht7)
           have VQ := kp hv
           unfold valV
           clear hv hk7 hm7 ht7
           refine hK.out _ _ E16.out.keepsW (fun hHeld => ?_)
           clear hK K
           obtain ⟨a0, a1, af⟩ := Bk.c2 Pa.out.cell
           have Q16 := kp (E16.out.fin hF Pa.out Pb.out Hne.out VP.out VQ.out)
           obtain ⟨b0, b1, bf⟩ := Bk.c2 Pb.out.cell
           have hne1 := Hne.out
           have hne2 := Ne.symm hne1
           refine rd 16 fun K hK => ?_
           go_simp
           refine hK.out _ _ ((E16.out.setK Pa.out pv)) (fun hHeld => ?_)
           clear hK K
           try simp only [pt]
           refine rd 17 fun K hK => ?_
           go_simp
           refine hK.out _ _ (((E16.out.setK2 Pa.out Pb.out pv qv))) (fun hHeld => ?_)
           clear hK K
           try simp only [pt]
           refine wpAnyH_done (by kernel_rfl) ?_ _
           go_wp2_with fail
           go_meet
           exact ⟨_, _, rfl, rfl, Q16.out⟩
       ·go_simp
        have E17 := kp (E0.out.alloc (.cells #[.int .i64 0, .int .i64 0] 69))
        have Pa := kp (Ab.new E0.out)
        refine hK.out _ _ E17.out.keepsW (fun hHeld => ?_)
        clear hK K
        try simp only [pt]
        generalize World.alloc wd (.cells #[.int .i64 0, .int .i64 0] 69) = u17 at *
        generalize wd.heap.size = z17 at *
        refine wpAnyH_ready (rs := [6, 15]) (by kernel_rfl) (by simp) ?_
        refine AllReadyH.cons (o := Oper.mk _ _ _ _ _ _) rfl (fun K hK => ?_) (AllReadyH.cons (o := Oper.mk _ _ _ _ _ _) rfl (fun K hK => ?_) (AllReadyH.nil))
        ·go_simp
         refine (HC1.out _ _ _ E17.out).mono ?_
         rintro e u18 ⟨rfl, hv, hk7, A7, c7, hm7, ht7⟩
         have E18 := kp (E17.out.call hk7 hm7 ht7)
         replace Pa := kp (Pa.out.call E17.out hk7 ht7)
         have VP := kp hv
         unfold valV
         clear hv hk7 hm7 ht7
         refine hK.out _ _ E18.out.keepsW (fun hHeld => ?_)
         clear hK K
         refine wpAnyH_ready (rs := [13, 15]) (by kernel_rfl) (by simp) ?_
         refine AllReadyH.cons (o := Oper.mk _ _ _ _ _ _) rfl (fun K hK => ?_) (AllReadyH.cons (o := Oper.mk _ _ _ _ _ _) rfl (fun K hK => ?_) (AllReadyH.nil))
         ·go_simp
          refine (HC2.out _ _ _ E18.out).mono ?_
          rintro e u19 ⟨rfl, hv, hk7, A7, c7, hm7, ht7⟩
          have E19 := kp (E18.out.call hk7 hm7 ht7)
          replace Pa := kp (Pa.out.call E18.out hk7 ht7)
          have VQ := kp hv
          unfold valV
          clear hv hk7 hm7 ht7
          refine hK.out _ _ E19.out.keepsW (fun hHeld => ?_)
          clear hK K
          refine rd 15 fun K hK => ?_
          ·go_simp
           have E20 := kp (E19.out.alloc (.cells #[.int .i64 0, .int .i64 0] 69))
           have Pb := kp (Ab.new E19.out)
           have Hne := kp (show _ ≠ u19.heap.size from (Nat.ne_of_lt Pa.out.lt))
           replace Pa := kp (Pa.out.alloc (.cells #[.int .i64 0, .int .i64 0] 69))
           refine hK.out _ _ E20.out.keepsW (fun hHeld => ?_)
           clear hK K
           try simp only [pt]
           generalize World.alloc u19 (.cells #[.int .i64 0, .int .i64 0] 69) = u20 at *
           generalize u19.heap.size = z20 at *
           obtain ⟨a0, a1, af⟩ := Bk.c2 Pa.out.cell
           have Q16 := kp (E20.out.fin hF Pa.out Pb.out Hne.out VP.out VQ.out)
           obtain ⟨b0, b1, bf⟩ := Bk.c2 Pb.out.cell
           have hne1 := Hne.out
           have hne2 := Ne.symm hne1
           refine rd 16 fun K hK => ?_
           go_simp
           refine hK.out _ _ ((E20.out.setK Pa.out pv)) (fun hHeld => ?_)
           clear hK K
           try simp only [pt]
           refine rd 17 fun K hK => ?_
           go_simp
           refine hK.out _ _ (((E20.out.setK2 Pa.out Pb.out pv qv))) (fun hHeld => ?_)
           clear hK K
           try simp only [pt]
           refine wpAnyH_done (by kernel_rfl) ?_ _
           go_wp2_with fail
           go_meet
           exact ⟨_, _, rfl, rfl, Q16.out⟩
         ·go_simp
          have E21 := kp (E18.out.alloc (.cells #[.int .i64 0, .int .i64 0] 69))
          have Pb := kp (Ab.new E18.out)
          have Hne := kp (show _ ≠ u18.heap.size from (Nat.ne_of_lt Pa.out.lt))
          replace Pa := kp (Pa.out.alloc (.cells #[.int .i64 0, .int .i64 0] 69))
          refine hK.out _ _ E21.out.keepsW (fun hHeld => ?_)
          clear hK K
          try simp only [pt]
          generalize World.alloc u18 (.cells #[.int .i64 0, .int .i64 0] 69) = u21 at *
          generalize u18.heap.size = z21 at *
          refine rd 13 fun K hK => ?_
          ·go_simp
           refine (HC2.out _ _ _ E21.out).mono ?_
           rintro e u22 ⟨rfl, hv, hk7, A7, c7, hm7, ht7⟩
           have E22 := kp (E21.out.call hk7 hm7 ht7)
           replace Pa := kp (Pa.out.call E21.out hk7 ht7)
           replace Pb := kp (Pb.out.call E21.out hk7 ht7)
           have VQ := kp hv
           unfold valV
           clear hv hk7 hm7 ht7
           refine hK.out _ _ E22.out.keepsW (fun hHeld => ?_)
           clear hK K
           obtain ⟨a0, a1, af⟩ := Bk.c2 Pa.out.cell
           have Q16 := kp (E22.out.fin hF Pa.out Pb.out Hne.out VP.out VQ.out)
           obtain ⟨b0, b1, bf⟩ := Bk.c2 Pb.out.cell
           have hne1 := Hne.out
           have hne2 := Ne.symm hne1
           refine rd 16 fun K hK => ?_
           go_simp
           refine hK.out _ _ ((E22.out.setK Pa.out pv)) (fun hHeld => ?_)
           clear hK K
           try simp only [pt]
           refine rd 17 fun K hK => ?_
           go_simp
           refine hK.out _ _ (((E22.out.setK2 Pa.out Pb.out pv qv))) (fun hHeld => ?_)
           clear hK K
           try simp only [pt]
           refine wpAnyH_done (by kernel_rfl) ?_ _
           go_wp2_with fail
           go_meet
           exact ⟨_, _, rfl, rfl, Q16.out⟩
        ·go_simp
         have E23 := kp (E17.out.alloc (.cells #[.int .i64 0, .int .i64 0] 69))
         have Pb := kp (Ab.new E17.out)
         have Hne := kp (show _ ≠ u17.heap.size from (Nat.ne_of_lt Pa.out.lt))
         replace Pa := kp (Pa.out.alloc (.cells #[.int .i64 0, .int .i64 0] 69))
         refine hK.out _ _ E23.out.keepsW (fun hHeld => ?_)
         clear hK K
         try simp only [pt]
         generalize World.alloc u17 (.cells #[.int .i64 0, .int .i64 0] 69) = u23 at *
         generalize u17.heap.size = z23 at *
         refine rd 6 fun K hK => ?_
         ·go_simp
          refine (HC1.out _ _ _ E23.out).mono ?_
          rintro e u24 ⟨rfl, hv, hk7, A7, c7, hm7, ht7⟩
          have E24 := kp (E23.out.call hk7 hm7 ht7)
          replace Pa := kp (Pa.out.call E23.out hk7 ht7)
          replace Pb := kp (Pb.out.call E23.out hk7 ht7)
          have VP := kp hv
          unfold valV
          clear hv hk7 hm7 ht7
          refine hK.out _ _ E24.out.keepsW (fun hHeld => ?_)
          clear hK K
          refine rd 13 fun K hK => ?_
          ·go_simp
           refine (HC2.out _ _ _ E24.out).mono ?_
           rintro e u25 ⟨rfl, hv, hk7, A7, c7, hm7, ht7⟩
           have E25 := kp (E24.out.call hk7 hm7 ht7)
           replace Pa := kp (Pa.out.call E24.out hk7 ht7)
           replace Pb := kp (Pb.out.call E24.out hk7 ht7)
           have VQ := kp hv
           unfold valV
           clear hv hk7 hm7 ht7
           refine hK.out _ _ E25.out.keepsW (fun hHeld => ?_)
           clear hK K
           obtain ⟨a0, a1, af⟩ := Bk.c2 Pa.out.cell
           have Q16 := kp (E25.out.fin hF Pa.out Pb.out Hne.out VP.out VQ.out)
           obtain ⟨b0, b1, bf⟩ := Bk.c2 Pb.out.cell
           have hne1 := Hne.out
           have hne2 := Ne.symm hne1
           refine rd 16 fun K hK => ?_
           go_simp
           refine hK.out _ _ ((E25.out.setK Pa.out pv)) (fun hHeld => ?_)
           clear hK K
           try simp only [pt]
           refine rd 17 fun K hK => ?_
           go_simp
           refine hK.out _ _ (((E25.out.setK2 Pa.out Pb.out pv qv))) (fun hHeld => ?_)
           clear hK K
           try simp only [pt]
           refine wpAnyH_done (by kernel_rfl) ?_ _
           go_wp2_with fail
           go_meet
           exact ⟨_, _, rfl, rfl, Q16.out⟩
       ·go_simp
        have E26 := kp (E0.out.alloc (.cells #[.int .i64 0, .int .i64 0] 69))
        have Pb := kp (Ab.new E0.out)
        refine hK.out _ _ E26.out.keepsW (fun hHeld => ?_)
        clear hK K
        try simp only [pt]
        generalize World.alloc wd (.cells #[.int .i64 0, .int .i64 0] 69) = u26 at *
        generalize wd.heap.size = z26 at *
        refine wpAnyH_ready (rs := [6, 14]) (by kernel_rfl) (by simp) ?_
        refine AllReadyH.cons (o := Oper.mk _ _ _ _ _ _) rfl (fun K hK => ?_) (AllReadyH.cons (o := Oper.mk _ _ _ _ _ _) rfl (fun K hK => ?_) (AllReadyH.nil))
        ·go_simp
         refine (HC1.out _ _ _ E26.out).mono ?_
         rintro e u27 ⟨rfl, hv, hk7, A7, c7, hm7, ht7⟩
         have E27 := kp (E26.out.call hk7 hm7 ht7)
         replace Pb := kp (Pb.out.call E26.out hk7 ht7)
         have VP := kp hv
         unfold valV
         clear hv hk7 hm7 ht7
         refine hK.out _ _ E27.out.keepsW (fun hHeld => ?_)
         clear hK K
         refine wpAnyH_ready (rs := [13, 14]) (by kernel_rfl) (by simp) ?_
         refine AllReadyH.cons (o := Oper.mk _ _ _ _ _ _) rfl (fun K hK => ?_) (AllReadyH.cons (o := Oper.mk _ _ _ _ _ _) rfl (fun K hK => ?_) (AllReadyH.nil))
         ·go_simp
          refine (HC2.out _ _ _ E27.out).mono ?_
          rintro e u28 ⟨rfl, hv, hk7, A7, c7, hm7, ht7⟩
          have E28 := kp (E27.out.call hk7 hm7 ht7)
          replace Pb := kp (Pb.out.call E27.out hk7 ht7)
          have VQ := kp hv
          unfold valV
          clear hv hk7 hm7 ht7
          refine hK.out _ _ E28.out.keepsW (fun hHeld => ?_)
          clear hK K
          refine rd 14 fun K hK => ?_
          ·go_simp
           have E29 := kp (E28.out.alloc (.cells #[.int .i64 0, .int .i64 0] 69))
           have Pa := kp (Ab.new E28.out)
           have Hne := kp (show u28.heap.size ≠ _ from (Ne.symm (Nat.ne_of_lt Pb.out.lt)))
           replace Pb := kp (Pb.out.alloc (.cells #[.int .i64 0, .int .i64 0] 69))
           refine hK.out _ _ E29.out.keepsW (fun hHeld => ?_)
           clear hK K
           try simp only [pt]
           generalize World.alloc u28 (.cells #[.int .i64 0, .int .i64 0] 69) = u29 at *
           generalize u28.heap.size = z29 at *
           obtain ⟨a0, a1, af⟩ := Bk.c2 Pa.out.cell
           have Q16 := kp (E29.out.fin hF Pa.out Pb.out Hne.out VP.out VQ.out)
           obtain ⟨b0, b1, bf⟩ := Bk.c2 Pb.out.cell
           have hne1 := Hne.out
           have hne2 := Ne.symm hne1
           refine rd 16 fun K hK => ?_
           go_simp
           refine hK.out _ _ ((E29.out.setK Pa.out pv)) (fun hHeld => ?_)
           clear hK K
           try simp only [pt]
           refine rd 17 fun K hK => ?_
           go_simp
           refine hK.out _ _ (((E29.out.setK2 Pa.out Pb.out pv qv))) (fun hHeld => ?_)
           clear hK K
           try simp only [pt]
           refine wpAnyH_done (by kernel_rfl) ?_ _
           go_wp2_with fail
           go_meet
           exact ⟨_, _, rfl, rfl, Q16.out⟩
         ·go_simp
          have E30 := kp (E27.out.alloc (.cells #[.int .i64 0, .int .i64 0] 69))
          have Pa := kp (Ab.new E27.out)
          have Hne := kp (show u27.heap.size ≠ _ from (Ne.symm (Nat.ne_of_lt Pb.out.lt)))
          replace Pb := kp (Pb.out.alloc (.cells #[.int .i64 0, .int .i64 0] 69))
          refine hK.out _ _ E30.out.keepsW (fun hHeld => ?_)
          clear hK K
          try simp only [pt]
          generalize World.alloc u27 (.cells #[.int .i64 0, .int .i64 0] 69) = u30 at *
          generalize u27.heap.size = z30 at *
          refine rd 13 fun K hK => ?_
          ·go_simp
           refine (HC2.out _ _ _ E30.out).mono ?_
           rintro e u31 ⟨rfl, hv, hk7, A7, c7, hm7, ht7⟩
           have E31 := kp (E30.out.call hk7 hm7 ht7)
           replace Pa := kp (Pa.out.call E30.out hk7 ht7)
           replace Pb := kp (Pb.out.call E30.out hk7 ht7)
           have VQ := kp hv
           unfold valV
           clear hv hk7 hm7 ht7
           refine hK.out _ _ E31.out.keepsW (fun hHeld => ?_)
           clear hK K
           obtain ⟨a0, a1, af⟩ := Bk.c2 Pa.out.cell
           have Q16 := kp (E31.out.fin hF Pa.out Pb.out Hne.out VP.out VQ.out)
           obtain ⟨b0, b1, bf⟩ := Bk.c2 Pb.out.cell
           have hne1 := Hne.out
           have hne2 := Ne.symm hne1
           refine rd 16 fun K hK => ?_
           go_simp
           refine hK.out _ _ ((E31.out.setK Pa.out pv)) (fun hHeld => ?_)
           clear hK K
           try simp only [pt]
           refine rd 17 fun K hK => ?_
           go_simp
           refine hK.out _ _ (((E31.out.setK2 Pa.out Pb.out pv qv))) (fun hHeld => ?_)
           clear hK K
           try simp only [pt]
           refine wpAnyH_done (by kernel_rfl) ?_ _
           go_wp2_with fail
           go_meet
           exact ⟨_, _, rfl, rfl, Q16.out⟩
        ·go_simp
         have E32 := kp (E26.out.alloc (.cells #[.int .i64 0, .int .i64 0] 69))
         have Pa := kp (Ab.new E26.out)
         have Hne := kp (show u26.heap.size ≠ _ from (Ne.symm (Nat.ne_of_lt Pb.out.lt)))
         replace Pb := kp (Pb.out.alloc (.cells #[.int .i64 0, .int .i64 0] 69))
         refine hK.out _ _ E32.out.keepsW (fun hHeld => ?_)
         clear hK K
         try simp only [pt]
         generalize World.alloc u26 (.cells #[.int .i64 0, .int .i64 0] 69) = u32 at *
         generalize u26.heap.size = z32 at *
         refine rd 6 fun K hK => ?_
         ·go_simp
          refine (HC1.out _ _ _ E32.out).mono ?_
          rintro e u33 ⟨rfl, hv, hk7, A7, c7, hm7, ht7⟩
          have E33 := kp (E32.out.call hk7 hm7 ht7)
          replace Pa := kp (Pa.out.call E32.out hk7 ht7)
          replace Pb := kp (Pb.out.call E32.out hk7 ht7)
          have VP := kp hv
          unfold valV
          clear hv hk7 hm7 ht7
          refine hK.out _ _ E33.out.keepsW (fun hHeld => ?_)
          clear hK K
          refine rd 13 fun K hK => ?_
          ·go_simp
           refine (HC2.out _ _ _ E33.out).mono ?_
           rintro e u34 ⟨rfl, hv, hk7, A7, c7, hm7, ht7⟩
           have E34 := kp (E33.out.call hk7 hm7 ht7)
           replace Pa := kp (Pa.out.call E33.out hk7 ht7)
           replace Pb := kp (Pb.out.call E33.out hk7 ht7)
           have VQ := kp hv
           unfold valV
           clear hv hk7 hm7 ht7
           refine hK.out _ _ E34.out.keepsW (fun hHeld => ?_)
           clear hK K
           obtain ⟨a0, a1, af⟩ := Bk.c2 Pa.out.cell
           have Q16 := kp (E34.out.fin hF Pa.out Pb.out Hne.out VP.out VQ.out)
           obtain ⟨b0, b1, bf⟩ := Bk.c2 Pb.out.cell
           have hne1 := Hne.out
           have hne2 := Ne.symm hne1
           refine rd 16 fun K hK => ?_
           go_simp
           refine hK.out _ _ ((E34.out.setK Pa.out pv)) (fun hHeld => ?_)
           clear hK K
           try simp only [pt]
           refine rd 17 fun K hK => ?_
           go_simp
           refine hK.out _ _ (((E34.out.setK2 Pa.out Pb.out pv qv))) (fun hHeld => ?_)
           clear hK K
           try simp only [pt]
           refine wpAnyH_done (by kernel_rfl) ?_ _
           go_wp2_with fail
           go_meet
           exact ⟨_, _, rfl, rfl, Q16.out⟩
      case rest =>
       obtain ⟨ab, bb, rfl, rfl, Aq, cq, hmid, hkq, hab, hbb, hla, hlb', hvp, hvq⟩ := hcut
       have D4 := kp hmid
       have PA := kp hab
       have PB := kp hbb
       have R4 := kp (D3.out.blk hkq R3.out hrr)
       have hla2 := Nat.le_trans D3.out.keeps.size hla
       have hlb2 := Nat.le_trans D3.out.keeps.size hlb'
       clear hmid hkq hab hbb
       obtain ⟨q0, q1, q2, qf⟩ := Bk.c3 R4.out
       have HNm := kp (number_any hF D4.out.maker (HX2.out.on D4.out.maker.below))
       have HLim := kp (show -4611686018427387904 ≤ (numberM F.c y2 qs).1 ∧ (numberM F.c y2 qs).1 ≤ 4611686018427387904 by rw [numberM_fst]; exact numR_lim y2)
       replace HDL := kp (show resL = heldM F.c name pv qv (numberM F.c y2 qs).1 (numberM F.c y2 qs).2 by rw [HDL.out, HRa.out]; dsimp only; rw [HRb.out])
       generalize numberM F.c y2 qs = nr at *
       obtain ⟨n, ns⟩ := nr
       go_wp2_with fail
       refine HNm.out.mono ?_
       rintro e w5 ⟨rfl, hk5, A5, c5, hm5, ht5⟩
       have D5 := kp (D4.out.call hk5 hm5 ht5)
       have P5 := kp (D4.out.blk hk5 PA.out hla2)
       have Q5 := kp (D4.out.blk hk5 PB.out hlb2)
       clear hk5 hm5 ht5 q0 q1 q2 qf
       have HHe := kp (held_any hF D5.out.maker name pv qv hvp hvq n HLim.out)
       rw [show heldM F.c name pv qv n ns = resL from HDL.out.symm] at HHe
       obtain ⟨a0, a1, af⟩ := Bk.c2 P5.out
       obtain ⟨b0, b1, bf⟩ := Bk.c2 Q5.out
       go_wp2_with fail
       refine HHe.out.mono ?_
       rintro e w6 ⟨rfl, hv, hk6, A6, c6, hm6, ht6⟩
       have D6 := kp (D5.out.call hk6 hm6 ht6)
       unfold valV
       clear hk6 hm6 ht6 a0 a1 af b0 b1 bf
       obtain ⟨r0, r1, rf⟩ := Bk.c2 D6.out.cell
       go_wp2_with fail
       rw [HS.out]
       refine D6.out.ret2 (v := resL.1) hF Tryz.results81 ?_ ?_ ?_ hv <;> rfl
     | false =>
      rw [hn2] at HNu HD
      go_wp2_with fail
      refine HNu.out.mono ?_
      rintro e w3 ⟨rfl, hb3⟩
      have D3 := kp (D2.out.below hb3)
      have L3 := kp (Bk.on L2.out hb3)
      have R3 := kp (Bk.on R2.out hb3)
      clear hb3 q0 q1 q2 qf HNu hn2
      clear DB D2 LB L2 RB R2
      replace HD := kp (show dn = if (minusB y2 && isNumX y1) = true then 2 else 0 from HD.out)
      have HMi2 := kp (minus_any (HX2.out.on D3.out.maker.below))
      have HMl2 := kp (minus_len (x := y2))
      obtain ⟨q0, q1, q2, qf⟩ := Bk.c3 R3.out
      cases hm2 : minusB y2 with
      | false =>
       rw [hm2] at HMi2 HD
       clear hm2
       go_wp2_with fail
       refine HMi2.out.mono ?_
       rintro e w4 ⟨rfl, hb4⟩
       have D4 := kp (D3.out.below hb4)
       clear hb4 q0 q1 q2 qf HMi2
       have hdn : dn = 0 := HD.out
       replace HS := kp (show res = ((v0, false), st) by rw [HS.out, hdn]; rfl)
       clear hdn
       obtain ⟨r0, r1, rf⟩ := Bk.c2 D4.out.cell
       go_wp2_with fail
       rw [HS.out]
       refine D4.out.ret2 (v := v0) hF Tryz.results81 ?_ ?_ ?_ v0_VI <;> rfl
      | true =>
       rw [hm2] at HMi2 HD
       have h3 := HMl2.out hm2
       have k3 : (2 : Int) < (y2.l.length : Int) := by omega
       have k4 : (1 : Int) < (y2.l.length : Int) := by omega
       clear h3 hm2
       go_wp2_with fail
       refine HMi2.out.mono ?_
       rintro e w4 ⟨rfl, hb4⟩
       have D4 := kp (D3.out.below hb4)
       have L4 := kp (Bk.on L3.out hb4)
       have R4 := kp (Bk.on R3.out hb4)
       clear hb4 q0 q1 q2 qf HMi2
       have HNu2 := kp (isnum_any (HX1.out.on D4.out.maker.below))
       obtain ⟨q0, q1, q2, qf⟩ := Bk.c3 L4.out
       cases hn1 : isNumX y1 with
       | false =>
        rw [hn1] at HNu2 HD
        clear hn1
        go_wp2_with fail
        refine HNu2.out.mono ?_
        rintro e w5 ⟨rfl, hb5⟩
        have D5 := kp (D4.out.below hb5)
        clear hb5 q0 q1 q2 qf HNu2
        have hdn : dn = 0 := HD.out
        replace HS := kp (show res = ((v0, false), st) by rw [HS.out, hdn]; rfl)
        clear hdn
        obtain ⟨r0, r1, rf⟩ := Bk.c2 D5.out.cell
        go_wp2_with fail
        rw [HS.out]
        refine D5.out.ret2 (v := v0) hF Tryz.results81 ?_ ?_ ?_ v0_VI <;> rfl
       | true =>
        rw [hn1] at HNu2 HD
        have hdn : dn = 2 := HD.out
        replace HS := kp (show res = ((resR.1, true), resR.2) by rw [HS.out, hdn]; rfl)
        clear hn1 hdn
        go_wp2_with fail
        refine HNu2.out.mono ?_
        rintro e w5 ⟨rfl, hb5⟩
        have D5 := kp (D4.out.below hb5)
        have L5 := kp (Bk.on L4.out hb5)
        have R5 := kp (Bk.on R4.out hb5)
        clear hb5 q0 q1 q2 qf HNu2
        obtain ⟨q0, q1, q2, qf⟩ := Bk.c3 L5.out
        have HNm := kp (number_any hF D5.out.maker (HX1.out.on D5.out.maker.below))
        have HLim := kp (show -4611686018427387904 ≤ (numberM F.c y1 st).1 ∧ (numberM F.c y1 st).1 ≤ 4611686018427387904 by rw [numberM_fst]; exact numR_lim y1)
        generalize numberM F.c y1 st = nr at *
        obtain ⟨n, ns⟩ := nr
        go_wp2_with fail
        refine HNm.out.mono ?_
        rintro e w6 ⟨rfl, hk6, A6, c6, hm6, ht6⟩
        have D6 := kp (D5.out.call hk6 hm6 ht6)
        have R6 := kp (D5.out.blk hk6 R5.out hrr)
        clear hk6 hm6 ht6 q0 q1 q2 qf HNm
        clear D3 D4 D5 L3 L4 L5 R3 R4 R5
        go_upto_region 11 with fail
        generalize hw3 : w6 = w3 at *
        clear hw3
        have D3 := D6
        have E0 := kp (show Dm F known w st.t At (w.heap.size + 1) w3 w3.drew ns A6 c6 from ⟨D3.out.drew, (Keeps.refl _ _).drew, D3.out.size, D3.out.keeps.size⟩)
        have hy1 : 1 < y2.l.length := by omega
        have hy2 : 2 < y2.l.length := by omega
        obtain ⟨bz, oz, Az1, cz1, hAz, hxz1, hcz1⟩ := nth_xs HX2.out hy1
        obtain ⟨bz', oz', Az2, cz2, hAz2, hxz2, hcz2⟩ := nth_xs HX2.out hy2
        subst hAz
        simp only [Option.some.injEq, Addr.mk.injEq, and_true] at hAz2
        obtain ⟨rfl, rfl⟩ := hAz2
        have HMz1 := kp (nth_mem hy1)
        have HMz2 := kp (nth_mem hy2)
        have HXz1 := kp hxz1
        have HXz2 := kp hxz2
        have HZz1 := kp (fun (W : World) (hW : Keeps (onMb F) w3 W) => hcz1 W (below_mb hF D3.out.maker.below hW))
        have HZz2 := kp (fun (W : World) (hW : Keeps (onMb F) w3 W) => hcz2 W (below_mb hF D3.out.maker.below hW))
        have HBx := kp (fun (W : World) (hW : Keeps (onMb F) w3 W) => D3.out.blk hW R6.out hrr)
        clear hy1 hy2 hxz1 hxz2 hcz1 hcz2
        generalize nthX y2 1 = zz1 at *
        generalize nthX y2 2 = zz2 at *
        obtain ⟨pv, ps, hra⟩ : ∃ pv ps, r zz1 ns = (pv, ps) := ⟨_, _, rfl⟩
        obtain ⟨qv, qs, hrb⟩ : ∃ qv qs, r zz2 ps = (qv, qs) := ⟨_, _, rfl⟩
        have HRa := kp hra
        have HRb := kp hrb
        clear hra hrb
        have HC1 := kp (fun (W : World) (A' : Option Addr) (c' : Nat) (h : Dm F known w st.t At (w.heap.size + 1) w3 W ns A' c') => show Calls Tryz.prog 29 #[.pointer (some ⟨F.mb, 0, none⟩), .agg #[.int .i8 zz1.kind, .string zz1.text, .slice Az1 zz1.l.length cz1], .pointer p] W (MkPost F known W ns.t A' pv ps) by
         have := HT.out _ HM2.out _ HMz1.out h.mid.maker HXz1.out (HE.out.on h.mid.keeps)
         rwa [HRf.out, HRa.out] at this)
        have HC2 := kp (fun (W : World) (A' : Option Addr) (c' : Nat) (h : Dm F known w st.t At (w.heap.size + 1) w3 W ps A' c') => show Calls Tryz.prog 29 #[.pointer (some ⟨F.mb, 0, none⟩), .agg #[.int .i8 zz2.kind, .string zz2.text, .slice Az2 zz2.l.length cz2], .pointer p] W (MkPost F known W ps.t A' qv qs) by
         have := HT.out _ HM2.out _ HMz2.out h.mid.maker HXz2.out (HE.out.on h.mid.keeps)
         rwa [HRf.out, HRb.out] at this)
        go_cut [15, 16] from 77 to 90 (fun v13 v14 W => ∃ ab bb, v13 = .pointer (some ⟨ab, 0, none⟩) ∧ v14 = .pointer (some ⟨bb, 0, none⟩) ∧ DfQ F known w st.t At (w.heap.size + 1) w3 pv qv qs ab bb W)
        case first =>
         refine wp_region_held_drew (S := fun W => Keeps (onMb F) w3 W) (by kernel_rfl) (E0.out.keepsW) (fun hHeld => ?_)
         refine tk 0 (v := ?_) ?_ ?_
         rotate_left
         ·(intro w hSw; go_simp; try with_reducible rfl)
         try simp only [pt]
         refine tk 1 (v := ?_) ?_ ?_
         rotate_left
         ·(intro w hSw; go_simp; try with_reducible rfl)
         try simp only [pt]
         refine tk 2 (v := ?_) ?_ ?_
         rotate_left
         ·(intro w hSw; (obtain ⟨q0, q1, q2, qf⟩ := Bk.c3 (HBx.out _ hSw); go_simp; try with_reducible rfl))
         try simp only [pt]
         refine tk 3 (v := ?_) ?_ ?_
         rotate_left
         ·(intro w hSw; go_simp; try with_reducible rfl)
         try simp only [pt]
         refine tk 4 (v := ?_) ?_ ?_
         rotate_left
         ·(intro w hSw; (obtain ⟨q0, q1, q2⟩ := HZz1.out _ hSw; go_simp; try with_reducible rfl))
         try simp only [pt]
         refine tk 5 (v := ?_) ?_ ?_
         rotate_left
         ·(intro w hSw; go_simp; try with_reducible rfl)
         try simp only [pt]
         refine tk 7 (v := ?_) ?_ ?_
         rotate_left
         ·(intro w hSw; go_simp; try with_reducible rfl)
         try simp only [pt]
         refine tk 8 (v := ?_) ?_ ?_
         rotate_left
         ·(intro w hSw; go_simp; try with_reducible rfl)
         try simp only [pt]
         refine tk 9 (v := ?_) ?_ ?_
         rotate_left
         ·(intro w hSw; (obtain ⟨q0, q1, q2, qf⟩ := Bk.c3 (HBx.out _ hSw); go_simp; try with_reducible rfl))
         try simp only [pt]
         refine tk 10 (v := ?_) ?_ ?_
         rotate_left
         ·(intro w hSw; go_simp; try with_reducible rfl)
         try simp only [pt]
         refine tk 11 (v := ?_) ?_ ?_
         rotate_left
         ·(intro w hSw; (obtain ⟨q0, q1, q2⟩ := HZz2.out _ hSw; go_simp; try with_reducible rfl))
         try simp only [pt]
         refine tk 12 (v := ?_) ?_ ?_
         rotate_left
         ·(intro w hSw; go_simp; try with_reducible rfl)
         try simp only [pt]
         generalize hwd : World.drew _ = wd at *
         clear hwd
         refine wpAnyH_ready (rs := [6, 14, 15]) (by kernel_rfl) (by simp) ?_
         refine AllReadyH.cons (o := Oper.mk _ _ _ _ _ _) rfl (fun K hK => ?_) (AllReadyH.cons (o := Oper.mk _ _ _ _ _ _) rfl (fun K hK => ?_) (AllReadyH.cons (o := Oper.mk _ _ _ _ _ _) rfl (fun K hK => ?_) (AllReadyH.nil)))
         ·go_simp
          refine (HC1.out _ _ _ E0.out).mono ?_
          rintro e u1 ⟨rfl, hv, hk7, A7, c7, hm7, ht7⟩
          have E1 := kp (E0.out.call hk7 hm7 ht7)
          have VP := kp hv
          unfold valV
          clear hv hk7 hm7 ht7
          refine hK.out _ _ E1.out.keepsW (fun hHeld => ?_)
          clear hK K
          refine wpAnyH_ready (rs := [13, 14, 15]) (by kernel_rfl) (by simp) ?_
          refine AllReadyH.cons (o := Oper.mk _ _ _ _ _ _) rfl (fun K hK => ?_) (AllReadyH.cons (o := Oper.mk _ _ _ _ _ _) rfl (fun K hK => ?_) (AllReadyH.cons (o := Oper.mk _ _ _ _ _ _) rfl (fun K hK => ?_) (AllReadyH.nil)))
          ·go_simp
           refine (HC2.out _ _ _ E1.out).mono ?_
           rintro e u2 ⟨rfl, hv, hk7, A7, c7, hm7, ht7⟩
           have E2 := kp (E1.out.call hk7 hm7 ht7)
           have VQ := kp hv
           unfold valV
           clear hv hk7 hm7 ht7
           refine hK.out _ _ E2.out.keepsW (fun hHeld => ?_)
           clear hK K
           refine wpAnyH_ready (rs := [14, 15]) (by kernel_rfl) (by simp) ?_
           refine AllReadyH.cons (o := Oper.mk _ _ _ _ _ _) rfl (fun K hK => ?_) (AllReadyH.cons (o := Oper.mk _ _ _ _ _ _) rfl (fun K hK => ?_) (AllReadyH.nil))
           ·go_simp
            have E3 := kp (E2.out.alloc (.cells #[.int .i64 0, .int .i64 0] 69))
            have Pa := kp (Ab.new E2.out)
            refine hK.out _ _ E3.out.keepsW (fun hHeld => ?_)
            clear hK K
            try simp only [pt]
            generalize World.alloc u2 (.cells #[.int .i64 0, .int .i64 0] 69) = u3 at *
            generalize u2.heap.size = z3 at *
            refine rd 15 fun K hK => ?_
            ·go_simp
             have E4 := kp (E3.out.alloc (.cells #[.int .i64 0, .int .i64 0] 69))
             have Pb := kp (Ab.new E3.out)
             have Hne := kp (show _ ≠ u3.heap.size from (Nat.ne_of_lt Pa.out.lt))
             replace Pa := kp (Pa.out.alloc (.cells #[.int .i64 0, .int .i64 0] 69))
             refine hK.out _ _ E4.out.keepsW (fun hHeld => ?_)
             clear hK K
             try simp only [pt]
             generalize World.alloc u3 (.cells #[.int .i64 0, .int .i64 0] 69) = u4 at *
             generalize u3.heap.size = z4 at *
             obtain ⟨a0, a1, af⟩ := Bk.c2 Pa.out.cell
             have Q16 := kp (E4.out.fin hF Pa.out Pb.out Hne.out VP.out VQ.out)
             obtain ⟨b0, b1, bf⟩ := Bk.c2 Pb.out.cell
             have hne1 := Hne.out
             have hne2 := Ne.symm hne1
             refine rd 16 fun K hK => ?_
             go_simp
             refine hK.out _ _ ((E4.out.setK Pa.out pv)) (fun hHeld => ?_)
             clear hK K
             try simp only [pt]
             refine rd 17 fun K hK => ?_
             go_simp
             refine hK.out _ _ (((E4.out.setK2 Pa.out Pb.out pv qv))) (fun hHeld => ?_)
             clear hK K
             try simp only [pt]
             refine wpAnyH_done (by kernel_rfl) ?_ _
             go_wp2_with fail
             go_meet
             exact ⟨_, _, rfl, rfl, Q16.out⟩
           ·go_simp
            have E5 := kp (E2.out.alloc (.cells #[.int .i64 0, .int .i64 0] 69))
            have Pb := kp (Ab.new E2.out)
            refine hK.out _ _ E5.out.keepsW (fun hHeld => ?_)
            clear hK K
            try simp only [pt]
            generalize World.alloc u2 (.cells #[.int .i64 0, .int .i64 0] 69) = u5 at *
            generalize u2.heap.size = z5 at *
            refine rd 14 fun K hK => ?_
            ·go_simp
             have E6 := kp (E5.out.alloc (.cells #[.int .i64 0, .int .i64 0] 69))
             have Pa := kp (Ab.new E5.out)
             have Hne := kp (show u5.heap.size ≠ _ from (Ne.symm (Nat.ne_of_lt Pb.out.lt)))
             replace Pb := kp (Pb.out.alloc (.cells #[.int .i64 0, .int .i64 0] 69))
             refine hK.out _ _ E6.out.keepsW (fun hHeld => ?_)
             clear hK K
             try simp only [pt]
             generalize World.alloc u5 (.cells #[.int .i64 0, .int .i64 0] 69) = u6 at *
             generalize u5.heap.size = z6 at *
             obtain ⟨a0, a1, af⟩ := Bk.c2 Pa.out.cell
             have Q16 := kp (E6.out.fin hF Pa.out Pb.out Hne.out VP.out VQ.out)
             obtain ⟨b0, b1, bf⟩ := Bk.c2 Pb.out.cell
             have hne1 := Hne.out
             have hne2 := Ne.symm hne1
             refine rd 16 fun K hK => ?_
             go_simp
             refine hK.out _ _ ((E6.out.setK Pa.out pv)) (fun hHeld => ?_)
             clear hK K
             try simp only [pt]
             refine rd 17 fun K hK => ?_
             go_simp
             refine hK.out _ _ (((E6.out.setK2 Pa.out Pb.out pv qv))) (fun hHeld => ?_)
             clear hK K
             try simp only [pt]
             refine wpAnyH_done (by kernel_rfl) ?_ _
             go_wp2_with fail
             go_meet
             exact ⟨_, _, rfl, rfl, Q16.out⟩
          ·go_simp
           have E7 := kp (E1.out.alloc (.cells #[.int .i64 0, .int .i64 0] 69))
           have Pa := kp (Ab.new E1.out)
           refine hK.out _ _ E7.out.keepsW (fun hHeld => ?_)
           clear hK K
           try simp only [pt]
           generalize World.alloc u1 (.cells #[.int .i64 0, .int .i64 0] 69) = u7 at *
           generalize u1.heap.size = z7 at *
           refine wpAnyH_ready (rs := [13, 15]) (by kernel_rfl) (by simp) ?_
           refine AllReadyH.cons (o := Oper.mk _ _ _ _ _ _) rfl (fun K hK => ?_) (AllReadyH.cons (o := Oper.mk _ _ _ _ _ _) rfl (fun K hK => ?_) (AllReadyH.nil))
           ·go_simp
            refine (HC2.out _ _ _ E7.out).mono ?_
            rintro e u8 ⟨rfl, hv, hk7, A7, c7, hm7, ht7⟩
            have E8 := kp (E7.out.call hk7 hm7 ht7)
            replace Pa := kp (Pa.out.call E7.out hk7 ht7)
            have VQ := kp hv
            unfold valV
            clear hv hk7 hm7 ht7
            refine hK.out _ _ E8.out.keepsW (fun hHeld => ?_)
            clear hK K
            refine rd 15 fun K hK => ?_
            ·go_simp
             have E9 := kp (E8.out.alloc (.cells #[.int .i64 0, .int .i64 0] 69))
             have Pb := kp (Ab.new E8.out)
             have Hne := kp (show _ ≠ u8.heap.size from (Nat.ne_of_lt Pa.out.lt))
             replace Pa := kp (Pa.out.alloc (.cells #[.int .i64 0, .int .i64 0] 69))
             refine hK.out _ _ E9.out.keepsW (fun hHeld => ?_)
             clear hK K
             try simp only [pt]
             generalize World.alloc u8 (.cells #[.int .i64 0, .int .i64 0] 69) = u9 at *
             generalize u8.heap.size = z9 at *
             obtain ⟨a0, a1, af⟩ := Bk.c2 Pa.out.cell
             have Q16 := kp (E9.out.fin hF Pa.out Pb.out Hne.out VP.out VQ.out)
             obtain ⟨b0, b1, bf⟩ := Bk.c2 Pb.out.cell
             have hne1 := Hne.out
             have hne2 := Ne.symm hne1
             refine rd 16 fun K hK => ?_
             go_simp
             refine hK.out _ _ ((E9.out.setK Pa.out pv)) (fun hHeld => ?_)
             clear hK K
             try simp only [pt]
             refine rd 17 fun K hK => ?_
             go_simp
             refine hK.out _ _ (((E9.out.setK2 Pa.out Pb.out pv qv))) (fun hHeld => ?_)
             clear hK K
             try simp only [pt]
             refine wpAnyH_done (by kernel_rfl) ?_ _
             go_wp2_with fail
             go_meet
             exact ⟨_, _, rfl, rfl, Q16.out⟩
           ·go_simp
            have E10 := kp (E7.out.alloc (.cells #[.int .i64 0, .int .i64 0] 69))
            have Pb := kp (Ab.new E7.out)
            have Hne := kp (show _ ≠ u7.heap.size from (Nat.ne_of_lt Pa.out.lt))
            replace Pa := kp (Pa.out.alloc (.cells #[.int .i64 0, .int .i64 0] 69))
            refine hK.out _ _ E10.out.keepsW (fun hHeld => ?_)
            clear hK K
            try simp only [pt]
            generalize World.alloc u7 (.cells #[.int .i64 0, .int .i64 0] 69) = u10 at *
            generalize u7.heap.size = z10 at *
            refine rd 13 fun K hK => ?_
            ·go_simp
             refine (HC2.out _ _ _ E10.out).mono ?_
             rintro e u11 ⟨rfl, hv, hk7, A7, c7, hm7, ht7⟩
             have E11 := kp (E10.out.call hk7 hm7 ht7)
             replace Pa := kp (Pa.out.call E10.out hk7 ht7)
             replace Pb := kp (Pb.out.call E10.out hk7 ht7)
             have VQ := kp hv
             unfold valV
             clear hv hk7 hm7 ht7
             refine hK.out _ _ E11.out.keepsW (fun hHeld => ?_)
             clear hK K
             obtain ⟨a0, a1, af⟩ := Bk.c2 Pa.out.cell
             have Q16 := kp (E11.out.fin hF Pa.out Pb.out Hne.out VP.out VQ.out)
             obtain ⟨b0, b1, bf⟩ := Bk.c2 Pb.out.cell
             have hne1 := Hne.out
             have hne2 := Ne.symm hne1
             refine rd 16 fun K hK => ?_
             go_simp
             refine hK.out _ _ ((E11.out.setK Pa.out pv)) (fun hHeld => ?_)
             clear hK K
             try simp only [pt]
             refine rd 17 fun K hK => ?_
             go_simp
             refine hK.out _ _ (((E11.out.setK2 Pa.out Pb.out pv qv))) (fun hHeld => ?_)
             clear hK K
             try simp only [pt]
             refine wpAnyH_done (by kernel_rfl) ?_ _
             go_wp2_with fail
             go_meet
             exact ⟨_, _, rfl, rfl, Q16.out⟩
          ·go_simp
           have E12 := kp (E1.out.alloc (.cells #[.int .i64 0, .int .i64 0] 69))
           have Pb := kp (Ab.new E1.out)
           refine hK.out _ _ E12.out.keepsW (fun hHeld => ?_)
           clear hK K
           try simp only [pt]
           generalize World.alloc u1 (.cells #[.int .i64 0, .int .i64 0] 69) = u12 at *
           generalize u1.heap.size = z12 at *
           refine wpAnyH_ready (rs := [13, 14]) (by kernel_rfl) (by simp) ?_
           refine AllReadyH.cons (o := Oper.mk _ _ _ _ _ _) rfl (fun K hK => ?_) (AllReadyH.cons (o := Oper.mk _ _ _ _ _ _) rfl (fun K hK => ?_) (AllReadyH.nil))
           ·go_simp
            refine (HC2.out _ _ _ E12.out).mono ?_
            rintro e u13 ⟨rfl, hv, hk7, A7, c7, hm7, ht7⟩
            have E13 := kp (E12.out.call hk7 hm7 ht7)
            replace Pb := kp (Pb.out.call E12.out hk7 ht7)
            have VQ := kp hv
            unfold valV
            clear hv hk7 hm7 ht7
            refine hK.out _ _ E13.out.keepsW (fun hHeld => ?_)
            clear hK K
            refine rd 14 fun K hK => ?_
            ·go_simp
             have E14 := kp (E13.out.alloc (.cells #[.int .i64 0, .int .i64 0] 69))
             have Pa := kp (Ab.new E13.out)
             have Hne := kp (show u13.heap.size ≠ _ from (Ne.symm (Nat.ne_of_lt Pb.out.lt)))
             replace Pb := kp (Pb.out.alloc (.cells #[.int .i64 0, .int .i64 0] 69))
             refine hK.out _ _ E14.out.keepsW (fun hHeld => ?_)
             clear hK K
             try simp only [pt]
             generalize World.alloc u13 (.cells #[.int .i64 0, .int .i64 0] 69) = u14 at *
             generalize u13.heap.size = z14 at *
             obtain ⟨a0, a1, af⟩ := Bk.c2 Pa.out.cell
             have Q16 := kp (E14.out.fin hF Pa.out Pb.out Hne.out VP.out VQ.out)
             obtain ⟨b0, b1, bf⟩ := Bk.c2 Pb.out.cell
             have hne1 := Hne.out
             have hne2 := Ne.symm hne1
             refine rd 16 fun K hK => ?_
             go_simp
             refine hK.out _ _ ((E14.out.setK Pa.out pv)) (fun hHeld => ?_)
             clear hK K
             try simp only [pt]
             refine rd 17 fun K hK => ?_
             go_simp
             refine hK.out _ _ (((E14.out.setK2 Pa.out Pb.out pv qv))) (fun hHeld => ?_)
             clear hK K
             try simp only [pt]
             refine wpAnyH_done (by kernel_rfl) ?_ _
             go_wp2_with fail
             go_meet
             exact ⟨_, _, rfl, rfl, Q16.out⟩
           ·go_simp
            have E15 := kp (E12.out.alloc (.cells #[.int .i64 0, .int .i64 0] 69))
            have Pa := kp (Ab.new E12.out)
            have Hne := kp (show u12.heap.size ≠ _ from (Ne.symm (Nat.ne_of_lt Pb.out.lt)))
            replace Pb := kp (Pb.out.alloc (.cells #[.int .i64 0, .int .i64 0] 69))
            refine hK.out _ _ E15.out.keepsW (fun hHeld => ?_)
            clear hK K
            try simp only [pt]
            generalize World.alloc u12 (.cells #[.int .i64 0, .int .i64 0] 69) = u15 at *
            generalize u12.heap.size = z15 at *
            refine rd 13 fun K hK => ?_
            ·go_simp
             refine (HC2.out _ _ _ E15.out).mono ?_
             rintro e u16 ⟨rfl, hv, hk7, A7, c7, hm7, ht7⟩
             have E16 := kp (E15.out.call hk7 hm7 ht7)
             replace Pa := kp (Pa.out.call E15.out hk7 ht7)
             replace Pb := kp (Pb.out.call E15.out hk7 ht7)
             have VQ := kp hv
             unfold valV
             clear hv hk7 hm7 ht7
             refine hK.out _ _ E16.out.keepsW (fun hHeld => ?_)
             clear hK K
             obtain ⟨a0, a1, af⟩ := Bk.c2 Pa.out.cell
             have Q16 := kp (E16.out.fin hF Pa.out Pb.out Hne.out VP.out VQ.out)
             obtain ⟨b0, b1, bf⟩ := Bk.c2 Pb.out.cell
             have hne1 := Hne.out
             have hne2 := Ne.symm hne1
             refine rd 16 fun K hK => ?_
             go_simp
             refine hK.out _ _ ((E16.out.setK Pa.out pv)) (fun hHeld => ?_)
             clear hK K
             try simp only [pt]
             refine rd 17 fun K hK => ?_
             go_simp
             refine hK.out _ _ (((E16.out.setK2 Pa.out Pb.out pv qv))) (fun hHeld => ?_)
             clear hK K
             try simp only [pt]
             refine wpAnyH_done (by kernel_rfl) ?_ _
             go_wp2_with fail
             go_meet
             exact ⟨_, _, rfl, rfl, Q16.out⟩
         ·go_simp
          have E17 := kp (E0.out.alloc (.cells #[.int .i64 0, .int .i64 0] 69))
          have Pa := kp (Ab.new E0.out)
          refine hK.out _ _ E17.out.keepsW (fun hHeld => ?_)
          clear hK K
          try simp only [pt]
          generalize World.alloc wd (.cells #[.int .i64 0, .int .i64 0] 69) = u17 at *
          generalize wd.heap.size = z17 at *
          refine wpAnyH_ready (rs := [6, 15]) (by kernel_rfl) (by simp) ?_
          refine AllReadyH.cons (o := Oper.mk _ _ _ _ _ _) rfl (fun K hK => ?_) (AllReadyH.cons (o := Oper.mk _ _ _ _ _ _) rfl (fun K hK => ?_) (AllReadyH.nil))
          ·go_simp
           refine (HC1.out _ _ _ E17.out).mono ?_
           rintro e u18 ⟨rfl, hv, hk7, A7, c7, hm7, ht7⟩
           have E18 := kp (E17.out.call hk7 hm7 ht7)
           replace Pa := kp (Pa.out.call E17.out hk7 ht7)
           have VP := kp hv
           unfold valV
           clear hv hk7 hm7 ht7
           refine hK.out _ _ E18.out.keepsW (fun hHeld => ?_)
           clear hK K
           refine wpAnyH_ready (rs := [13, 15]) (by kernel_rfl) (by simp) ?_
           refine AllReadyH.cons (o := Oper.mk _ _ _ _ _ _) rfl (fun K hK => ?_) (AllReadyH.cons (o := Oper.mk _ _ _ _ _ _) rfl (fun K hK => ?_) (AllReadyH.nil))
           ·go_simp
            refine (HC2.out _ _ _ E18.out).mono ?_
            rintro e u19 ⟨rfl, hv, hk7, A7, c7, hm7, ht7⟩
            have E19 := kp (E18.out.call hk7 hm7 ht7)
            replace Pa := kp (Pa.out.call E18.out hk7 ht7)
            have VQ := kp hv
            unfold valV
            clear hv hk7 hm7 ht7
            refine hK.out _ _ E19.out.keepsW (fun hHeld => ?_)
            clear hK K
            refine rd 15 fun K hK => ?_
            ·go_simp
             have E20 := kp (E19.out.alloc (.cells #[.int .i64 0, .int .i64 0] 69))
             have Pb := kp (Ab.new E19.out)
             have Hne := kp (show _ ≠ u19.heap.size from (Nat.ne_of_lt Pa.out.lt))
             replace Pa := kp (Pa.out.alloc (.cells #[.int .i64 0, .int .i64 0] 69))
             refine hK.out _ _ E20.out.keepsW (fun hHeld => ?_)
             clear hK K
             try simp only [pt]
             generalize World.alloc u19 (.cells #[.int .i64 0, .int .i64 0] 69) = u20 at *
             generalize u19.heap.size = z20 at *
             obtain ⟨a0, a1, af⟩ := Bk.c2 Pa.out.cell
             have Q16 := kp (E20.out.fin hF Pa.out Pb.out Hne.out VP.out VQ.out)
             obtain ⟨b0, b1, bf⟩ := Bk.c2 Pb.out.cell
             have hne1 := Hne.out
             have hne2 := Ne.symm hne1
             refine rd 16 fun K hK => ?_
             go_simp
             refine hK.out _ _ ((E20.out.setK Pa.out pv)) (fun hHeld => ?_)
             clear hK K
             try simp only [pt]
             refine rd 17 fun K hK => ?_
             go_simp
             refine hK.out _ _ (((E20.out.setK2 Pa.out Pb.out pv qv))) (fun hHeld => ?_)
             clear hK K
             try simp only [pt]
             refine wpAnyH_done (by kernel_rfl) ?_ _
             go_wp2_with fail
             go_meet
             exact ⟨_, _, rfl, rfl, Q16.out⟩
           ·go_simp
            have E21 := kp (E18.out.alloc (.cells #[.int .i64 0, .int .i64 0] 69))
            have Pb := kp (Ab.new E18.out)
            have Hne := kp (show _ ≠ u18.heap.size from (Nat.ne_of_lt Pa.out.lt))
            replace Pa := kp (Pa.out.alloc (.cells #[.int .i64 0, .int .i64 0] 69))
            refine hK.out _ _ E21.out.keepsW (fun hHeld => ?_)
            clear hK K
            try simp only [pt]
            generalize World.alloc u18 (.cells #[.int .i64 0, .int .i64 0] 69) = u21 at *
            generalize u18.heap.size = z21 at *
            refine rd 13 fun K hK => ?_
            ·go_simp
             refine (HC2.out _ _ _ E21.out).mono ?_
             rintro e u22 ⟨rfl, hv, hk7, A7, c7, hm7, ht7⟩
             have E22 := kp (E21.out.call hk7 hm7 ht7)
             replace Pa := kp (Pa.out.call E21.out hk7 ht7)
             replace Pb := kp (Pb.out.call E21.out hk7 ht7)
             have VQ := kp hv
             unfold valV
             clear hv hk7 hm7 ht7
             refine hK.out _ _ E22.out.keepsW (fun hHeld => ?_)
             clear hK K
             obtain ⟨a0, a1, af⟩ := Bk.c2 Pa.out.cell
             have Q16 := kp (E22.out.fin hF Pa.out Pb.out Hne.out VP.out VQ.out)
             obtain ⟨b0, b1, bf⟩ := Bk.c2 Pb.out.cell
             have hne1 := Hne.out
             have hne2 := Ne.symm hne1
             refine rd 16 fun K hK => ?_
             go_simp
             refine hK.out _ _ ((E22.out.setK Pa.out pv)) (fun hHeld => ?_)
             clear hK K
             try simp only [pt]
             refine rd 17 fun K hK => ?_
             go_simp
             refine hK.out _ _ (((E22.out.setK2 Pa.out Pb.out pv qv))) (fun hHeld => ?_)
             clear hK K
             try simp only [pt]
             refine wpAnyH_done (by kernel_rfl) ?_ _
             go_wp2_with fail
             go_meet
             exact ⟨_, _, rfl, rfl, Q16.out⟩
          ·go_simp
           have E23 := kp (E17.out.alloc (.cells #[.int .i64 0, .int .i64 0] 69))
           have Pb := kp (Ab.new E17.out)
           have Hne := kp (show _ ≠ u17.heap.size from (Nat.ne_of_lt Pa.out.lt))
           replace Pa := kp (Pa.out.alloc (.cells #[.int .i64 0, .int .i64 0] 69))
           refine hK.out _ _ E23.out.keepsW (fun hHeld => ?_)
           clear hK K
           try simp only [pt]
           generalize World.alloc u17 (.cells #[.int .i64 0, .int .i64 0] 69) = u23 at *
           generalize u17.heap.size = z23 at *
           refine rd 6 fun K hK => ?_
           ·go_simp
            refine (HC1.out _ _ _ E23.out).mono ?_
            rintro e u24 ⟨rfl, hv, hk7, A7, c7, hm7, ht7⟩
            have E24 := kp (E23.out.call hk7 hm7 ht7)
            replace Pa := kp (Pa.out.call E23.out hk7 ht7)
            replace Pb := kp (Pb.out.call E23.out hk7 ht7)
            have VP := kp hv
            unfold valV
            clear hv hk7 hm7 ht7
            refine hK.out _ _ E24.out.keepsW (fun hHeld => ?_)
            clear hK K
            refine rd 13 fun K hK => ?_
            ·go_simp
             refine (HC2.out _ _ _ E24.out).mono ?_
             rintro e u25 ⟨rfl, hv, hk7, A7, c7, hm7, ht7⟩
             have E25 := kp (E24.out.call hk7 hm7 ht7)
             replace Pa := kp (Pa.out.call E24.out hk7 ht7)
             replace Pb := kp (Pb.out.call E24.out hk7 ht7)
             have VQ := kp hv
             unfold valV
             clear hv hk7 hm7 ht7
             refine hK.out _ _ E25.out.keepsW (fun hHeld => ?_)
             clear hK K
             obtain ⟨a0, a1, af⟩ := Bk.c2 Pa.out.cell
             have Q16 := kp (E25.out.fin hF Pa.out Pb.out Hne.out VP.out VQ.out)
             obtain ⟨b0, b1, bf⟩ := Bk.c2 Pb.out.cell
             have hne1 := Hne.out
             have hne2 := Ne.symm hne1
             refine rd 16 fun K hK => ?_
             go_simp
             refine hK.out _ _ ((E25.out.setK Pa.out pv)) (fun hHeld => ?_)
             clear hK K
             try simp only [pt]
             refine rd 17 fun K hK => ?_
             go_simp
             refine hK.out _ _ (((E25.out.setK2 Pa.out Pb.out pv qv))) (fun hHeld => ?_)
             clear hK K
             try simp only [pt]
             refine wpAnyH_done (by kernel_rfl) ?_ _
             go_wp2_with fail
             go_meet
             exact ⟨_, _, rfl, rfl, Q16.out⟩
         ·go_simp
          have E26 := kp (E0.out.alloc (.cells #[.int .i64 0, .int .i64 0] 69))
          have Pb := kp (Ab.new E0.out)
          refine hK.out _ _ E26.out.keepsW (fun hHeld => ?_)
          clear hK K
          try simp only [pt]
          generalize World.alloc wd (.cells #[.int .i64 0, .int .i64 0] 69) = u26 at *
          generalize wd.heap.size = z26 at *
          refine wpAnyH_ready (rs := [6, 14]) (by kernel_rfl) (by simp) ?_
          refine AllReadyH.cons (o := Oper.mk _ _ _ _ _ _) rfl (fun K hK => ?_) (AllReadyH.cons (o := Oper.mk _ _ _ _ _ _) rfl (fun K hK => ?_) (AllReadyH.nil))
          ·go_simp
           refine (HC1.out _ _ _ E26.out).mono ?_
           rintro e u27 ⟨rfl, hv, hk7, A7, c7, hm7, ht7⟩
           have E27 := kp (E26.out.call hk7 hm7 ht7)
           replace Pb := kp (Pb.out.call E26.out hk7 ht7)
           have VP := kp hv
           unfold valV
           clear hv hk7 hm7 ht7
           refine hK.out _ _ E27.out.keepsW (fun hHeld => ?_)
           clear hK K
           refine wpAnyH_ready (rs := [13, 14]) (by kernel_rfl) (by simp) ?_
           refine AllReadyH.cons (o := Oper.mk _ _ _ _ _ _) rfl (fun K hK => ?_) (AllReadyH.cons (o := Oper.mk _ _ _ _ _ _) rfl (fun K hK => ?_) (AllReadyH.nil))
           ·go_simp
            refine (HC2.out _ _ _ E27.out).mono ?_
            rintro e u28 ⟨rfl, hv, hk7, A7, c7, hm7, ht7⟩
            have E28 := kp (E27.out.call hk7 hm7 ht7)
            replace Pb := kp (Pb.out.call E27.out hk7 ht7)
            have VQ := kp hv
            unfold valV
            clear hv hk7 hm7 ht7
            refine hK.out _ _ E28.out.keepsW (fun hHeld => ?_)
            clear hK K
            refine rd 14 fun K hK => ?_
            ·go_simp
             have E29 := kp (E28.out.alloc (.cells #[.int .i64 0, .int .i64 0] 69))
             have Pa := kp (Ab.new E28.out)
             have Hne := kp (show u28.heap.size ≠ _ from (Ne.symm (Nat.ne_of_lt Pb.out.lt)))
             replace Pb := kp (Pb.out.alloc (.cells #[.int .i64 0, .int .i64 0] 69))
             refine hK.out _ _ E29.out.keepsW (fun hHeld => ?_)
             clear hK K
             try simp only [pt]
             generalize World.alloc u28 (.cells #[.int .i64 0, .int .i64 0] 69) = u29 at *
             generalize u28.heap.size = z29 at *
             obtain ⟨a0, a1, af⟩ := Bk.c2 Pa.out.cell
             have Q16 := kp (E29.out.fin hF Pa.out Pb.out Hne.out VP.out VQ.out)
             obtain ⟨b0, b1, bf⟩ := Bk.c2 Pb.out.cell
             have hne1 := Hne.out
             have hne2 := Ne.symm hne1
             refine rd 16 fun K hK => ?_
             go_simp
             refine hK.out _ _ ((E29.out.setK Pa.out pv)) (fun hHeld => ?_)
             clear hK K
             try simp only [pt]
             refine rd 17 fun K hK => ?_
             go_simp
             refine hK.out _ _ (((E29.out.setK2 Pa.out Pb.out pv qv))) (fun hHeld => ?_)
             clear hK K
             try simp only [pt]
             refine wpAnyH_done (by kernel_rfl) ?_ _
             go_wp2_with fail
             go_meet
             exact ⟨_, _, rfl, rfl, Q16.out⟩
           ·go_simp
            have E30 := kp (E27.out.alloc (.cells #[.int .i64 0, .int .i64 0] 69))
            have Pa := kp (Ab.new E27.out)
            have Hne := kp (show u27.heap.size ≠ _ from (Ne.symm (Nat.ne_of_lt Pb.out.lt)))
            replace Pb := kp (Pb.out.alloc (.cells #[.int .i64 0, .int .i64 0] 69))
            refine hK.out _ _ E30.out.keepsW (fun hHeld => ?_)
            clear hK K
            try simp only [pt]
            generalize World.alloc u27 (.cells #[.int .i64 0, .int .i64 0] 69) = u30 at *
            generalize u27.heap.size = z30 at *
            refine rd 13 fun K hK => ?_
            ·go_simp
             refine (HC2.out _ _ _ E30.out).mono ?_
             rintro e u31 ⟨rfl, hv, hk7, A7, c7, hm7, ht7⟩
             have E31 := kp (E30.out.call hk7 hm7 ht7)
             replace Pa := kp (Pa.out.call E30.out hk7 ht7)
             replace Pb := kp (Pb.out.call E30.out hk7 ht7)
             have VQ := kp hv
             unfold valV
             clear hv hk7 hm7 ht7
             refine hK.out _ _ E31.out.keepsW (fun hHeld => ?_)
             clear hK K
             obtain ⟨a0, a1, af⟩ := Bk.c2 Pa.out.cell
             have Q16 := kp (E31.out.fin hF Pa.out Pb.out Hne.out VP.out VQ.out)
             obtain ⟨b0, b1, bf⟩ := Bk.c2 Pb.out.cell
             have hne1 := Hne.out
             have hne2 := Ne.symm hne1
             refine rd 16 fun K hK => ?_
             go_simp
             refine hK.out _ _ ((E31.out.setK Pa.out pv)) (fun hHeld => ?_)
             clear hK K
             try simp only [pt]
             refine rd 17 fun K hK => ?_
             go_simp
             refine hK.out _ _ (((E31.out.setK2 Pa.out Pb.out pv qv))) (fun hHeld => ?_)
             clear hK K
             try simp only [pt]
             refine wpAnyH_done (by kernel_rfl) ?_ _
             go_wp2_with fail
             go_meet
             exact ⟨_, _, rfl, rfl, Q16.out⟩
          ·go_simp
           have E32 := kp (E26.out.alloc (.cells #[.int .i64 0, .int .i64 0] 69))
           have Pa := kp (Ab.new E26.out)
           have Hne := kp (show u26.heap.size ≠ _ from (Ne.symm (Nat.ne_of_lt Pb.out.lt)))
           replace Pb := kp (Pb.out.alloc (.cells #[.int .i64 0, .int .i64 0] 69))
           refine hK.out _ _ E32.out.keepsW (fun hHeld => ?_)
           clear hK K
           try simp only [pt]
           generalize World.alloc u26 (.cells #[.int .i64 0, .int .i64 0] 69) = u32 at *
           generalize u26.heap.size = z32 at *
           refine rd 6 fun K hK => ?_
           ·go_simp
            refine (HC1.out _ _ _ E32.out).mono ?_
            rintro e u33 ⟨rfl, hv, hk7, A7, c7, hm7, ht7⟩
            have E33 := kp (E32.out.call hk7 hm7 ht7)
            replace Pa := kp (Pa.out.call E32.out hk7 ht7)
            replace Pb := kp (Pb.out.call E32.out hk7 ht7)
            have VP := kp hv
            unfold valV
            clear hv hk7 hm7 ht7
            refine hK.out _ _ E33.out.keepsW (fun hHeld => ?_)
            clear hK K
            refine rd 13 fun K hK => ?_
            ·go_simp
             refine (HC2.out _ _ _ E33.out).mono ?_
             rintro e u34 ⟨rfl, hv, hk7, A7, c7, hm7, ht7⟩
             have E34 := kp (E33.out.call hk7 hm7 ht7)
             replace Pa := kp (Pa.out.call E33.out hk7 ht7)
             replace Pb := kp (Pb.out.call E33.out hk7 ht7)
             have VQ := kp hv
             unfold valV
             clear hv hk7 hm7 ht7
             refine hK.out _ _ E34.out.keepsW (fun hHeld => ?_)
             clear hK K
             obtain ⟨a0, a1, af⟩ := Bk.c2 Pa.out.cell
             have Q16 := kp (E34.out.fin hF Pa.out Pb.out Hne.out VP.out VQ.out)
             obtain ⟨b0, b1, bf⟩ := Bk.c2 Pb.out.cell
             have hne1 := Hne.out
             have hne2 := Ne.symm hne1
             refine rd 16 fun K hK => ?_
             go_simp
             refine hK.out _ _ ((E34.out.setK Pa.out pv)) (fun hHeld => ?_)
             clear hK K
             try simp only [pt]
             refine rd 17 fun K hK => ?_
             go_simp
             refine hK.out _ _ (((E34.out.setK2 Pa.out Pb.out pv qv))) (fun hHeld => ?_)
             clear hK K
             try simp only [pt]
             refine wpAnyH_done (by kernel_rfl) ?_ _
             go_wp2_with fail
             go_meet
             exact ⟨_, _, rfl, rfl, Q16.out⟩
        case rest =>
         obtain ⟨ab, bb, rfl, rfl, Aq, cq, hmid, hkq, hab, hbb, hla, hlb', hvp, hvq⟩ := hcut
         have D4 := kp hmid
         have PA := kp hab
         have PB := kp hbb
         clear hmid hkq hab hbb hla hlb'
         replace HDR := kp (show resR = heldM F.c (turnN name) pv qv n qs by rw [HDR.out, HRa.out]; dsimp only; rw [HRb.out])
         generalize hwq : wc = wq at *
         clear hwq
         have M0 := kp (KeyMap.made (kt := 9) (key := Value.string) wq)
         have K0 := kp (show Keeps (fun k => k = wq.heap.size) wq (wq.alloc (.map #[] 0)) from (Keeps.refl _ _).alloc _)
         generalize hv0 : wq.alloc (.map #[] 0) = v0 at *
         obtain ⟨v1, u1, m1, g1⟩ := KeyMap.store (a := sLe) (t := 170) (e := 9) M0.out string_key str_inj Tryz.underlying170 (by decide) (keyOf_str (by decide)) (.string { data := #[62, 61] })
         replace u1 : (Instr.mapUpdate 170 (.map (some wq.heap.size)) (.string { data := #[60, 61] }) (.string { data := #[62, 61] })).run Tryz.prog v0 = .ok () v1 := u1
         have M1 := kp m1
         have K1 := kp (K0.out.grown g1 (fun k hk => .inl (Option.some.inj hk).symm))
         clear m1 g1
         obtain ⟨v2, u2, m2, g2⟩ := KeyMap.store (a := sLt) (t := 170) (e := 9) M1.out string_key str_inj Tryz.underlying170 (by decide) (keyOf_str (by decide)) (.string { data := #[62] })
         replace u2 : (Instr.mapUpdate 170 (.map (some wq.heap.size)) (.string { data := #[60] }) (.string { data := #[62] })).run Tryz.prog v1 = .ok () v2 := u2
         have M2 := kp m2
         have K2 := kp (K1.out.grown g2 (fun k hk => .inl (Option.some.inj hk).symm))
         clear m2 g2
         obtain ⟨v3, u3, m3, g3⟩ := KeyMap.store (a := sGe) (t := 170) (e := 9) M2.out string_key str_inj Tryz.underlying170 (by decide) (keyOf_str (by decide)) (.string { data := #[60, 61] })
         replace u3 : (Instr.mapUpdate 170 (.map (some wq.heap.size)) (.string { data := #[62, 61] }) (.string { data := #[60, 61] })).run Tryz.prog v2 = .ok () v3 := u3
         have M3 := kp m3
         have K3 := kp (K2.out.grown g3 (fun k hk => .inl (Option.some.inj hk).symm))
         clear m3 g3
         obtain ⟨v4, u4, m4, g4⟩ := KeyMap.store (a := sGt) (t := 170) (e := 9) M3.out string_key str_inj Tryz.underlying170 (by decide) (keyOf_str (by decide)) (.string { data := #[60] })
         replace u4 : (Instr.mapUpdate 170 (.map (some wq.heap.size)) (.string { data := #[62] }) (.string { data := #[60] })).run Tryz.prog v3 = .ok () v4 := u4
         have M4 := kp m4
         have K4 := kp (K3.out.grown g4 (fun k hk => .inl (Option.some.inj hk).symm))
         clear m4 g4
         obtain ⟨v5, u5, m5, g5⟩ := KeyMap.store (a := sEq) (t := 170) (e := 9) M4.out string_key str_inj Tryz.underlying170 (by decide) (keyOf_str (by decide)) (.string { data := #[61] })
         replace u5 : (Instr.mapUpdate 170 (.map (some wq.heap.size)) (.string { data := #[61] }) (.string { data := #[61] })).run Tryz.prog v4 = .ok () v5 := u5
         have M5 := kp m5
         have K5 := kp (K4.out.grown g5 (fun k hk => .inl (Option.some.inj hk).symm))
         clear m5 g5
         have hmm := @run_makeMap Tryz.prog
         subst hv0
         have HM := kp (show KeyMap 9 Value.string v5 wq.heap.size 5 turnF from M5.out)
         have B13 := kp (K5.out.below (B := wq.heap.size) (fun k e => by subst e; exact Nat.le_refl _) (Nat.le_refl _))
         have hlk := HM.out.get (a := name) string_key Tryz.underlying170 (zero_str v5) (keyOf_str hnm)
         rw [turn_get HCm.out] at hlk
         have D5 := kp (D4.out.below B13.out)
         have P5 := kp (Bk.on PA.out B13.out)
         have Q5 := kp (Bk.on PB.out B13.out)
         have HHe := kp (held_any hF D5.out.maker (turnN name) pv qv hvp hvq n HLim.out)
         rw [show heldM F.c (turnN name) pv qv n qs = resR from HDR.out.symm] at HHe
         clear M0 M1 M2 M3 M4 M5 K0 K1 K2 K3 K4 K5 HM B13
         obtain ⟨a0, a1, af⟩ := Bk.c2 P5.out
         obtain ⟨b0, b1, bf⟩ := Bk.c2 Q5.out
         generalize turnN name = tn at *
         go_wp2_with fail
         refine HHe.out.mono ?_
         rintro e w8 ⟨rfl, hv, hk6, A6, c6, hm6, ht6⟩
         have D8 := kp (D5.out.call hk6 hm6 ht6)
         unfold valV
         clear hk6 hm6 ht6 a0 a1 af b0 b1 bf
         obtain ⟨r0, r1, rf⟩ := Bk.c2 D8.out.cell
         go_wp2_with fail
         rw [HS.out]
         refine D8.out.ret2 (v := resR.1) hF Tryz.results81 ?_ ?_ ?_ hv <;> rfl
    | false =>
     rw [hm1] at HMi HD
     replace HD := kp (show dn = if (minusB y2 && isNumX y1) = true then 2 else 0 from HD.out)
     clear hm1
     go_wp2_with fail
     refine HMi.out.mono ?_
     rintro e w3 ⟨rfl, hb2⟩
     have D3 := kp (DB.out.below hb2)
     have L3 := kp (Bk.on LB.out hb2)
     have R3 := kp (Bk.on RB.out hb2)
     clear hb2 q0 q1 q2 qf HMi DB LB RB
     have HMi2 := kp (minus_any (HX2.out.on D3.out.maker.below))
     have HMl2 := kp (minus_len (x := y2))
     obtain ⟨q0, q1, q2, qf⟩ := Bk.c3 R3.out
     cases hm2 : minusB y2 with
     | false =>
      rw [hm2] at HMi2 HD
      clear hm2
      go_wp2_with fail
      refine HMi2.out.mono ?_
      rintro e w4 ⟨rfl, hb4⟩
      have D4 := kp (D3.out.below hb4)
      clear hb4 q0 q1 q2 qf HMi2
      have hdn : dn = 0 := HD.out
      replace HS := kp (show res = ((v0, false), st) by rw [HS.out, hdn]; rfl)
      clear hdn
      obtain ⟨r0, r1, rf⟩ := Bk.c2 D4.out.cell
      go_wp2_with fail
      rw [HS.out]
      refine D4.out.ret2 (v := v0) hF Tryz.results81 ?_ ?_ ?_ v0_VI <;> rfl
     | true =>
      rw [hm2] at HMi2 HD
      have h3 := HMl2.out hm2
      have k3 : (2 : Int) < (y2.l.length : Int) := by omega
      have k4 : (1 : Int) < (y2.l.length : Int) := by omega
      clear h3 hm2
      go_wp2_with fail
      refine HMi2.out.mono ?_
      rintro e w4 ⟨rfl, hb4⟩
      have D4 := kp (D3.out.below hb4)
      have L4 := kp (Bk.on L3.out hb4)
      have R4 := kp (Bk.on R3.out hb4)
      clear hb4 q0 q1 q2 qf HMi2
      have HNu2 := kp (isnum_any (HX1.out.on D4.out.maker.below))
      obtain ⟨q0, q1, q2, qf⟩ := Bk.c3 L4.out
      cases hn1 : isNumX y1 with
      | false =>
       rw [hn1] at HNu2 HD
       clear hn1
       go_wp2_with fail
       refine HNu2.out.mono ?_
       rintro e w5 ⟨rfl, hb5⟩
       have D5 := kp (D4.out.below hb5)
       clear hb5 q0 q1 q2 qf HNu2
       have hdn : dn = 0 := HD.out
       replace HS := kp (show res = ((v0, false), st) by rw [HS.out, hdn]; rfl)
       clear hdn
       obtain ⟨r0, r1, rf⟩ := Bk.c2 D5.out.cell
       go_wp2_with fail
       rw [HS.out]
       refine D5.out.ret2 (v := v0) hF Tryz.results81 ?_ ?_ ?_ v0_VI <;> rfl
      | true =>
       rw [hn1] at HNu2 HD
       have hdn : dn = 2 := HD.out
       replace HS := kp (show res = ((resR.1, true), resR.2) by rw [HS.out, hdn]; rfl)
       clear hn1 hdn
       go_wp2_with fail
       refine HNu2.out.mono ?_
       rintro e w5 ⟨rfl, hb5⟩
       have D5 := kp (D4.out.below hb5)
       have L5 := kp (Bk.on L4.out hb5)
       have R5 := kp (Bk.on R4.out hb5)
       clear hb5 q0 q1 q2 qf HNu2
       obtain ⟨q0, q1, q2, qf⟩ := Bk.c3 L5.out
       have HNm := kp (number_any hF D5.out.maker (HX1.out.on D5.out.maker.below))
       have HLim := kp (show -4611686018427387904 ≤ (numberM F.c y1 st).1 ∧ (numberM F.c y1 st).1 ≤ 4611686018427387904 by rw [numberM_fst]; exact numR_lim y1)
       generalize numberM F.c y1 st = nr at *
       obtain ⟨n, ns⟩ := nr
       go_wp2_with fail
       refine HNm.out.mono ?_
       rintro e w6 ⟨rfl, hk6, A6, c6, hm6, ht6⟩
       have D6 := kp (D5.out.call hk6 hm6 ht6)
       have R6 := kp (D5.out.blk hk6 R5.out hrr)
       clear hk6 hm6 ht6 q0 q1 q2 qf HNm
       clear D3 D4 D5 L3 L4 L5 R3 R4 R5
       go_upto_region 11 with fail
       generalize hw3 : w6 = w3 at *
       clear hw3
       have D3 := D6
       have E0 := kp (show Dm F known w st.t At (w.heap.size + 1) w3 w3.drew ns A6 c6 from ⟨D3.out.drew, (Keeps.refl _ _).drew, D3.out.size, D3.out.keeps.size⟩)
       have hy1 : 1 < y2.l.length := by omega
       have hy2 : 2 < y2.l.length := by omega
       obtain ⟨bz, oz, Az1, cz1, hAz, hxz1, hcz1⟩ := nth_xs HX2.out hy1
       obtain ⟨bz', oz', Az2, cz2, hAz2, hxz2, hcz2⟩ := nth_xs HX2.out hy2
       subst hAz
       simp only [Option.some.injEq, Addr.mk.injEq, and_true] at hAz2
       obtain ⟨rfl, rfl⟩ := hAz2
       have HMz1 := kp (nth_mem hy1)
       have HMz2 := kp (nth_mem hy2)
       have HXz1 := kp hxz1
       have HXz2 := kp hxz2
       have HZz1 := kp (fun (W : World) (hW : Keeps (onMb F) w3 W) => hcz1 W (below_mb hF D3.out.maker.below hW))
       have HZz2 := kp (fun (W : World) (hW : Keeps (onMb F) w3 W) => hcz2 W (below_mb hF D3.out.maker.below hW))
       have HBx := kp (fun (W : World) (hW : Keeps (onMb F) w3 W) => D3.out.blk hW R6.out hrr)
       clear hy1 hy2 hxz1 hxz2 hcz1 hcz2
       generalize nthX y2 1 = zz1 at *
       generalize nthX y2 2 = zz2 at *
       obtain ⟨pv, ps, hra⟩ : ∃ pv ps, r zz1 ns = (pv, ps) := ⟨_, _, rfl⟩
       obtain ⟨qv, qs, hrb⟩ : ∃ qv qs, r zz2 ps = (qv, qs) := ⟨_, _, rfl⟩
       have HRa := kp hra
       have HRb := kp hrb
       clear hra hrb
       have HC1 := kp (fun (W : World) (A' : Option Addr) (c' : Nat) (h : Dm F known w st.t At (w.heap.size + 1) w3 W ns A' c') => show Calls Tryz.prog 29 #[.pointer (some ⟨F.mb, 0, none⟩), .agg #[.int .i8 zz1.kind, .string zz1.text, .slice Az1 zz1.l.length cz1], .pointer p] W (MkPost F known W ns.t A' pv ps) by
        have := HT.out _ HM2.out _ HMz1.out h.mid.maker HXz1.out (HE.out.on h.mid.keeps)
        rwa [HRf.out, HRa.out] at this)
       have HC2 := kp (fun (W : World) (A' : Option Addr) (c' : Nat) (h : Dm F known w st.t At (w.heap.size + 1) w3 W ps A' c') => show Calls Tryz.prog 29 #[.pointer (some ⟨F.mb, 0, none⟩), .agg #[.int .i8 zz2.kind, .string zz2.text, .slice Az2 zz2.l.length cz2], .pointer p] W (MkPost F known W ps.t A' qv qs) by
        have := HT.out _ HM2.out _ HMz2.out h.mid.maker HXz2.out (HE.out.on h.mid.keeps)
        rwa [HRf.out, HRb.out] at this)
       go_cut [15, 16] from 77 to 90 (fun v13 v14 W => ∃ ab bb, v13 = .pointer (some ⟨ab, 0, none⟩) ∧ v14 = .pointer (some ⟨bb, 0, none⟩) ∧ DfQ F known w st.t At (w.heap.size + 1) w3 pv qv qs ab bb W)
       case first =>
        refine wp_region_held_drew (S := fun W => Keeps (onMb F) w3 W) (by kernel_rfl) (E0.out.keepsW) (fun hHeld => ?_)
        refine tk 0 (v := ?_) ?_ ?_
        rotate_left
        ·(intro w hSw; go_simp; try with_reducible rfl)
        try simp only [pt]
        refine tk 1 (v := ?_) ?_ ?_
        rotate_left
        ·(intro w hSw; go_simp; try with_reducible rfl)
        try simp only [pt]
        refine tk 2 (v := ?_) ?_ ?_
        rotate_left
        ·(intro w hSw; (obtain ⟨q0, q1, q2, qf⟩ := Bk.c3 (HBx.out _ hSw); go_simp; try with_reducible rfl))
        try simp only [pt]
        refine tk 3 (v := ?_) ?_ ?_
        rotate_left
        ·(intro w hSw; go_simp; try with_reducible rfl)
        try simp only [pt]
        refine tk 4 (v := ?_) ?_ ?_
        rotate_left
        ·(intro w hSw; (obtain ⟨q0, q1, q2⟩ := HZz1.out _ hSw; go_simp; try with_reducible rfl))
        try simp only [pt]
        refine tk 5 (v := ?_) ?_ ?_
        rotate_left
        ·(intro w hSw; go_simp; try with_reducible rfl)
        try simp only [pt]
        refine tk 7 (v := ?_) ?_ ?_
        rotate_left
        ·(intro w hSw; go_simp; try with_reducible rfl)
        try simp only [pt]
        refine tk 8 (v := ?_) ?_ ?_
        rotate_left
        ·(intro w hSw; go_simp; try with_reducible rfl)
        try simp only [pt]
        refine tk 9 (v := ?_) ?_ ?_
        rotate_left
        ·(intro w hSw; (obtain ⟨q0, q1, q2, qf⟩ := Bk.c3 (HBx.out _ hSw); go_simp; try with_reducible rfl))
        try simp only [pt]
        refine tk 10 (v := ?_) ?_ ?_
        rotate_left
        ·(intro w hSw; go_simp; try with_reducible rfl)
        try simp only [pt]
        refine tk 11 (v := ?_) ?_ ?_
        rotate_left
        ·(intro w hSw; (obtain ⟨q0, q1, q2⟩ := HZz2.out _ hSw; go_simp; try with_reducible rfl))
        try simp only [pt]
        refine tk 12 (v := ?_) ?_ ?_
        rotate_left
        ·(intro w hSw; go_simp; try with_reducible rfl)
        try simp only [pt]
        generalize hwd : World.drew _ = wd at *
        clear hwd
        refine wpAnyH_ready (rs := [6, 14, 15]) (by kernel_rfl) (by simp) ?_
        refine AllReadyH.cons (o := Oper.mk _ _ _ _ _ _) rfl (fun K hK => ?_) (AllReadyH.cons (o := Oper.mk _ _ _ _ _ _) rfl (fun K hK => ?_) (AllReadyH.cons (o := Oper.mk _ _ _ _ _ _) rfl (fun K hK => ?_) (AllReadyH.nil)))
        ·go_simp
         refine (HC1.out _ _ _ E0.out).mono ?_
         rintro e u1 ⟨rfl, hv, hk7, A7, c7, hm7, ht7⟩
         have E1 := kp (E0.out.call hk7 hm7 ht7)
         have VP := kp hv
         unfold valV
         clear hv hk7 hm7 ht7
         refine hK.out _ _ E1.out.keepsW (fun hHeld => ?_)
         clear hK K
         refine wpAnyH_ready (rs := [13, 14, 15]) (by kernel_rfl) (by simp) ?_
         refine AllReadyH.cons (o := Oper.mk _ _ _ _ _ _) rfl (fun K hK => ?_) (AllReadyH.cons (o := Oper.mk _ _ _ _ _ _) rfl (fun K hK => ?_) (AllReadyH.cons (o := Oper.mk _ _ _ _ _ _) rfl (fun K hK => ?_) (AllReadyH.nil)))
         ·go_simp
          refine (HC2.out _ _ _ E1.out).mono ?_
          rintro e u2 ⟨rfl, hv, hk7, A7, c7, hm7, ht7⟩
          have E2 := kp (E1.out.call hk7 hm7 ht7)
          have VQ := kp hv
          unfold valV
          clear hv hk7 hm7 ht7
          refine hK.out _ _ E2.out.keepsW (fun hHeld => ?_)
          clear hK K
          refine wpAnyH_ready (rs := [14, 15]) (by kernel_rfl) (by simp) ?_
          refine AllReadyH.cons (o := Oper.mk _ _ _ _ _ _) rfl (fun K hK => ?_) (AllReadyH.cons (o := Oper.mk _ _ _ _ _ _) rfl (fun K hK => ?_) (AllReadyH.nil))
          ·go_simp
           have E3 := kp (E2.out.alloc (.cells #[.int .i64 0, .int .i64 0] 69))
           have Pa := kp (Ab.new E2.out)
           refine hK.out _ _ E3.out.keepsW (fun hHeld => ?_)
           clear hK K
           try simp only [pt]
           generalize World.alloc u2 (.cells #[.int .i64 0, .int .i64 0] 69) = u3 at *
           generalize u2.heap.size = z3 at *
           refine rd 15 fun K hK => ?_
           ·go_simp
            have E4 := kp (E3.out.alloc (.cells #[.int .i64 0, .int .i64 0] 69))
            have Pb := kp (Ab.new E3.out)
            have Hne := kp (show _ ≠ u3.heap.size from (Nat.ne_of_lt Pa.out.lt))
            replace Pa := kp (Pa.out.alloc (.cells #[.int .i64 0, .int .i64 0] 69))
            refine hK.out _ _ E4.out.keepsW (fun hHeld => ?_)
            clear hK K
            try simp only [pt]
            generalize World.alloc u3 (.cells #[.int .i64 0, .int .i64 0] 69) = u4 at *
            generalize u3.heap.size = z4 at *
            obtain ⟨a0, a1, af⟩ := Bk.c2 Pa.out.cell
            have Q16 := kp (E4.out.fin hF Pa.out Pb.out Hne.out VP.out VQ.out)
            obtain ⟨b0, b1, bf⟩ := Bk.c2 Pb.out.cell
            have hne1 := Hne.out
            have hne2 := Ne.symm hne1
            refine rd 16 fun K hK => ?_
            go_simp
            refine hK.out _ _ ((E4.out.setK Pa.out pv)) (fun hHeld => ?_)
            clear hK K
            try simp only [pt]
            refine rd 17 fun K hK => ?_
            go_simp
            refine hK.out _ _ (((E4.out.setK2 Pa.out Pb.out pv qv))) (fun hHeld => ?_)
            clear hK K
            try simp only [pt]
            refine wpAnyH_done (by kernel_rfl) ?_ _
            go_wp2_with fail
            go_meet
            exact ⟨_, _, rfl, rfl, Q16.out⟩
          ·go_simp
           have E5 := kp (E2.out.alloc (.cells #[.int .i64 0, .int .i64 0] 69))
           have Pb := kp (Ab.new E2.out)
           refine hK.out _ _ E5.out.keepsW (fun hHeld => ?_)
           clear hK K
           try simp only [pt]
           generalize World.alloc u2 (.cells #[.int .i64 0, .int .i64 0] 69) = u5 at *
           generalize u2.heap.size = z5 at *
           refine rd 14 fun K hK => ?_
           ·go_simp
            have E6 := kp (E5.out.alloc (.cells #[.int .i64 0, .int .i64 0] 69))
            have Pa := kp (Ab.new E5.out)
            have Hne := kp (show u5.heap.size ≠ _ from (Ne.symm (Nat.ne_of_lt Pb.out.lt)))
            replace Pb := kp (Pb.out.alloc (.cells #[.int .i64 0, .int .i64 0] 69))
            refine hK.out _ _ E6.out.keepsW (fun hHeld => ?_)
            clear hK K
            try simp only [pt]
            generalize World.alloc u5 (.cells #[.int .i64 0, .int .i64 0] 69) = u6 at *
            generalize u5.heap.size = z6 at *
            obtain ⟨a0, a1, af⟩ := Bk.c2 Pa.out.cell
            have Q16 := kp (E6.out.fin hF Pa.out Pb.out Hne.out VP.out VQ.out)
            obtain ⟨b0, b1, bf⟩ := Bk.c2 Pb.out.cell
            have hne1 := Hne.out
            have hne2 := Ne.symm hne1
            refine rd 16 fun K hK => ?_
            go_simp
            refine hK.out _ _ ((E6.out.setK Pa.out pv)) (fun hHeld => ?_)
            clear hK K
            try simp only [pt]
            refine rd 17 fun K hK => ?_
            go_simp
            refine hK.out _ _ (((E6.out.setK2 Pa.out Pb.out pv qv))) (fun hHeld => ?_)
            clear hK K
            try simp only [pt]
            refine wpAnyH_done (by kernel_rfl) ?_ _
            go_wp2_with fail
            go_meet
            exact ⟨_, _, rfl, rfl, Q16.out⟩
         ·go_simp
          have E7 := kp (E1.out.alloc (.cells #[.int .i64 0, .int .i64 0] 69))
          have Pa := kp (Ab.new E1.out)
          refine hK.out _ _ E7.out.keepsW (fun hHeld => ?_)
          clear hK K
          try simp only [pt]
          generalize World.alloc u1 (.cells #[.int .i64 0, .int .i64 0] 69) = u7 at *
          generalize u1.heap.size = z7 at *
          refine wpAnyH_ready (rs := [13, 15]) (by kernel_rfl) (by simp) ?_
          refine AllReadyH.cons (o := Oper.mk _ _ _ _ _ _) rfl (fun K hK => ?_) (AllReadyH.cons (o := Oper.mk _ _ _ _ _ _) rfl (fun K hK => ?_) (AllReadyH.nil))
          ·go_simp
           refine (HC2.out _ _ _ E7.out).mono ?_
           rintro e u8 ⟨rfl, hv, hk7, A7, c7, hm7, ht7⟩
           have E8 := kp (E7.out.call hk7 hm7 ht7)
           replace Pa := kp (Pa.out.call E7.out hk7 ht7)
           have VQ := kp hv
           unfold valV
           clear hv hk7 hm7 ht7
           refine hK.out _ _ E8.out.keepsW (fun hHeld => ?_)
           clear hK K
           refine rd 15 fun K hK => ?_
           ·go_simp
            have E9 := kp (E8.out.alloc (.cells #[.int .i64 0, .int .i64 0] 69))
            have Pb := kp (Ab.new E8.out)
            have Hne := kp (show _ ≠ u8.heap.size from (Nat.ne_of_lt Pa.out.lt))
            replace Pa := kp (Pa.out.alloc (.cells #[.int .i64 0, .int .i64 0] 69))
            refine hK.out _ _ E9.out.keepsW (fun hHeld => ?_)
            clear hK K
            try simp only [pt]
            generalize World.alloc u8 (.cells #[.int .i64 0, .int .i64 0] 69) = u9 at *
            generalize u8.heap.size = z9 at *
            obtain ⟨a0, a1, af⟩ := Bk.c2 Pa.out.cell
            have Q16 := kp (E9.out.fin hF Pa.out Pb.out Hne.out VP.out VQ.out)
            obtain ⟨b0, b1, bf⟩ := Bk.c2 Pb.out.cell
            have hne1 := Hne.out
            have hne2 := Ne.symm hne1
            refine rd 16 fun K hK => ?_
            go_simp
            refine hK.out _ _ ((E9.out.setK Pa.out pv)) (fun hHeld => ?_)
            clear hK K
            try simp only [pt]
            refine rd 17 fun K hK => ?_
            go_simp
            refine hK.out _ _ (((E9.out.setK2 Pa.out Pb.out pv qv))) (fun hHeld => ?_)
            clear hK K
            try simp only [pt]
            refine wpAnyH_done (by kernel_rfl) ?_ _
            go_wp2_with fail
            go_meet
            exact ⟨_, _, rfl, rfl, Q16.out⟩
          ·go_simp
           have E10 := kp (E7.out.alloc (.cells #[.int .i64 0, .int .i64 0] 69))
           have Pb := kp (Ab.new E7.out)
           have Hne := kp (show _ ≠ u7.heap.size from (Nat.ne_of_lt Pa.out.lt))
           replace Pa := kp (Pa.out.alloc (.cells #[.int .i64 0, .int .i64 0] 69))
           refine hK.out _ _ E10.out.keepsW (fun hHeld => ?_)
           clear hK K
           try simp only [pt]
           generalize World.alloc u7 (.cells #[.int .i64 0, .int .i64 0] 69) = u10 at *
           generalize u7.heap.size = z10 at *
           refine rd 13 fun K hK => ?_
           ·go_simp
            refine (HC2.out _ _ _ E10.out).mono ?_
            rintro e u11 ⟨rfl, hv, hk7, A7, c7, hm7, ht7⟩
            have E11 := kp (E10.out.call hk7 hm7 ht7)
            replace Pa := kp (Pa.out.call E10.out hk7 ht7)
            replace Pb := kp (Pb.out.call E10.out hk7 ht7)
            have VQ := kp hv
            unfold valV
            clear hv hk7 hm7 ht7
            refine hK.out _ _ E11.out.keepsW (fun hHeld => ?_)
            clear hK K
            obtain ⟨a0, a1, af⟩ := Bk.c2 Pa.out.cell
            have Q16 := kp (E11.out.fin hF Pa.out Pb.out Hne.out VP.out VQ.out)
            obtain ⟨b0, b1, bf⟩ := Bk.c2 Pb.out.cell
            have hne1 := Hne.out
            have hne2 := Ne.symm hne1
            refine rd 16 fun K hK => ?_
            go_simp
            refine hK.out _ _ ((E11.out.setK Pa.out pv)) (fun hHeld => ?_)
            clear hK K
            try simp only [pt]
            refine rd 17 fun K hK => ?_
            go_simp
            refine hK.out _ _ (((E11.out.setK2 Pa.out Pb.out pv qv))) (fun hHeld => ?_)
            clear hK K
            try simp only [pt]
            refine wpAnyH_done (by kernel_rfl) ?_ _
            go_wp2_with fail
            go_meet
            exact ⟨_, _, rfl, rfl, Q16.out⟩
         ·go_simp
          have E12 := kp (E1.out.alloc (.cells #[.int .i64 0, .int .i64 0] 69))
          have Pb := kp (Ab.new E1.out)
          refine hK.out _ _ E12.out.keepsW (fun hHeld => ?_)
          clear hK K
          try simp only [pt]
          generalize World.alloc u1 (.cells #[.int .i64 0, .int .i64 0] 69) = u12 at *
          generalize u1.heap.size = z12 at *
          refine wpAnyH_ready (rs := [13, 14]) (by kernel_rfl) (by simp) ?_
          refine AllReadyH.cons (o := Oper.mk _ _ _ _ _ _) rfl (fun K hK => ?_) (AllReadyH.cons (o := Oper.mk _ _ _ _ _ _) rfl (fun K hK => ?_) (AllReadyH.nil))
          ·go_simp
           refine (HC2.out _ _ _ E12.out).mono ?_
           rintro e u13 ⟨rfl, hv, hk7, A7, c7, hm7, ht7⟩
           have E13 := kp (E12.out.call hk7 hm7 ht7)
           replace Pb := kp (Pb.out.call E12.out hk7 ht7)
           have VQ := kp hv
           unfold valV
           clear hv hk7 hm7 ht7
           refine hK.out _ _ E13.out.keepsW (fun hHeld => ?_)
           clear hK K
           refine rd 14 fun K hK => ?_
           ·go_simp
            have E14 := kp (E13.out.alloc (.cells #[.int .i64 0, .int .i64 0] 69))
            have Pa := kp (Ab.new E13.out)
            have Hne := kp (show u13.heap.size ≠ _ from (Ne.symm (Nat.ne_of_lt Pb.out.lt)))
            replace Pb := kp (Pb.out.alloc (.cells #[.int .i64 0, .int .i64 0] 69))
            refine hK.out _ _ E14.out.keepsW (fun hHeld => ?_)
            clear hK K
            try simp only [pt]
            generalize World.alloc u13 (.cells #[.int .i64 0, .int .i64 0] 69) = u14 at *
            generalize u13.heap.size = z14 at *
            obtain ⟨a0, a1, af⟩ := Bk.c2 Pa.out.cell
            have Q16 := kp (E14.out.fin hF Pa.out Pb.out Hne.out VP.out VQ.out)
            obtain ⟨b0, b1, bf⟩ := Bk.c2 Pb.out.cell
            have hne1 := Hne.out
            have hne2 := Ne.symm hne1
            refine rd 16 fun K hK => ?_
            go_simp
            refine hK.out _ _ ((E14.out.setK Pa.out pv)) (fun hHeld => ?_)
            clear hK K
            try simp only [pt]
            refine rd 17 fun K hK => ?_
            go_simp
            refine hK.out _ _ (((E14.out.setK2 Pa.out Pb.out pv qv))) (fun hHeld => ?_)
            clear hK K
            try simp only [pt]
            refine wpAnyH_done (by kernel_rfl) ?_ _
            go_wp2_with fail
            go_meet
            exact ⟨_, _, rfl, rfl, Q16.out⟩
          ·go_simp
           have E15 := kp (E12.out.alloc (.cells #[.int .i64 0, .int .i64 0] 69))
           have Pa := kp (Ab.new E12.out)
           have Hne := kp (show u12.heap.size ≠ _ from (Ne.symm (Nat.ne_of_lt Pb.out.lt)))
           replace Pb := kp (Pb.out.alloc (.cells #[.int .i64 0, .int .i64 0] 69))
           refine hK.out _ _ E15.out.keepsW (fun hHeld => ?_)
           clear hK K
           try simp only [pt]
           generalize World.alloc u12 (.cells #[.int .i64 0, .int .i64 0] 69) = u15 at *
           generalize u12.heap.size = z15 at *
           refine rd 13 fun K hK => ?_
           ·go_simp
            refine (HC2.out _ _ _ E15.out).mono ?_
            rintro e u16 ⟨rfl, hv, hk7, A7, c7, hm7, ht7⟩
            have E16 := kp (E15.out.call hk7 hm7 ht7)
            replace Pa := kp (Pa.out.call E15.out hk7 ht7)
            replace Pb := kp (Pb.out.call E15.out hk7 ht7)
            have VQ := kp hv
            unfold valV
            clear hv hk7 hm7 ht7
            refine hK.out _ _ E16.out.keepsW (fun hHeld => ?_)
            clear hK K
            obtain ⟨a0, a1, af⟩ := Bk.c2 Pa.out.cell
            have Q16 := kp (E16.out.fin hF Pa.out Pb.out Hne.out VP.out VQ.out)
            obtain ⟨b0, b1, bf⟩ := Bk.c2 Pb.out.cell
            have hne1 := Hne.out
            have hne2 := Ne.symm hne1
            refine rd 16 fun K hK => ?_
            go_simp
            refine hK.out _ _ ((E16.out.setK Pa.out pv)) (fun hHeld => ?_)
            clear hK K
            try simp only [pt]
            refine rd 17 fun K hK => ?_
            go_simp
            refine hK.out _ _ (((E16.out.setK2 Pa.out Pb.out pv qv))) (fun hHeld => ?_)
            clear hK K
            try simp only [pt]
            refine wpAnyH_done (by kernel_rfl) ?_ _
            go_wp2_with fail
            go_meet
            exact ⟨_, _, rfl, rfl, Q16.out⟩
        ·go_simp
         have E17 := kp (E0.out.alloc (.cells #[.int .i64 0, .int .i64 0] 69))
         have Pa := kp (Ab.new E0.out)
         refine hK.out _ _ E17.out.keepsW (fun hHeld => ?_)
         clear hK K
         try simp only [pt]
         generalize World.alloc wd (.cells #[.int .i64 0, .int .i64 0] 69) = u17 at *
         generalize wd.heap.size = z17 at *
         refine wpAnyH_ready (rs := [6, 15]) (by kernel_rfl) (by simp) ?_
         refine AllReadyH.cons (o := Oper.mk _ _ _ _ _ _) rfl (fun K hK => ?_) (AllReadyH.cons (o := Oper.mk _ _ _ _ _ _) rfl (fun K hK => ?_) (AllReadyH.nil))
         ·go_simp
          refine (HC1.out _ _ _ E17.out).mono ?_
          rintro e u18 ⟨rfl, hv, hk7, A7, c7, hm7, ht7⟩
          have E18 := kp (E17.out.call hk7 hm7 ht7)
          replace Pa := kp (Pa.out.call E17.out hk7 ht7)
          have VP := kp hv
          unfold valV
          clear hv hk7 hm7 ht7
          refine hK.out _ _ E18.out.keepsW (fun hHeld => ?_)
          clear hK K
          refine wpAnyH_ready (rs := [13, 15]) (by kernel_rfl) (by simp) ?_
          refine AllReadyH.cons (o := Oper.mk _ _ _ _ _ _) rfl (fun K hK => ?_) (AllReadyH.cons (o := Oper.mk _ _ _ _ _ _) rfl (fun K hK => ?_) (AllReadyH.nil))
          ·go_simp
           refine (HC2.out _ _ _ E18.out).mono ?_
           rintro e u19 ⟨rfl, hv, hk7, A7, c7, hm7, ht7⟩
           have E19 := kp (E18.out.call hk7 hm7 ht7)
           replace Pa := kp (Pa.out.call E18.out hk7 ht7)
           have VQ := kp hv
           unfold valV
           clear hv hk7 hm7 ht7
           refine hK.out _ _ E19.out.keepsW (fun hHeld => ?_)
           clear hK K
           refine rd 15 fun K hK => ?_
           ·go_simp
            have E20 := kp (E19.out.alloc (.cells #[.int .i64 0, .int .i64 0] 69))
            have Pb := kp (Ab.new E19.out)
            have Hne := kp (show _ ≠ u19.heap.size from (Nat.ne_of_lt Pa.out.lt))
            replace Pa := kp (Pa.out.alloc (.cells #[.int .i64 0, .int .i64 0] 69))
            refine hK.out _ _ E20.out.keepsW (fun hHeld => ?_)
            clear hK K
            try simp only [pt]
            generalize World.alloc u19 (.cells #[.int .i64 0, .int .i64 0] 69) = u20 at *
            generalize u19.heap.size = z20 at *
            obtain ⟨a0, a1, af⟩ := Bk.c2 Pa.out.cell
            have Q16 := kp (E20.out.fin hF Pa.out Pb.out Hne.out VP.out VQ.out)
            obtain ⟨b0, b1, bf⟩ := Bk.c2 Pb.out.cell
            have hne1 := Hne.out
            have hne2 := Ne.symm hne1
            refine rd 16 fun K hK => ?_
            go_simp
            refine hK.out _ _ ((E20.out.setK Pa.out pv)) (fun hHeld => ?_)
            clear hK K
            try simp only [pt]
            refine rd 17 fun K hK => ?_
            go_simp
            refine hK.out _ _ (((E20.out.setK2 Pa.out Pb.out pv qv))) (fun hHeld => ?_)
            clear hK K
            try simp only [pt]
            refine wpAnyH_done (by kernel_rfl) ?_ _
            go_wp2_with fail
            go_meet
            exact ⟨_, _, rfl, rfl, Q16.out⟩
          ·go_simp
           have E21 := kp (E18.out.alloc (.cells #[.int .i64 0, .int .i64 0] 69))
           have Pb := kp (Ab.new E18.out)
           have Hne := kp (show _ ≠ u18.heap.size from (Nat.ne_of_lt Pa.out.lt))
           replace Pa := kp (Pa.out.alloc (.cells #[.int .i64 0, .int .i64 0] 69))
           refine hK.out _ _ E21.out.keepsW (fun hHeld => ?_)
           clear hK K
           try simp only [pt]
           generalize World.alloc u18 (.cells #[.int .i64 0, .int .i64 0] 69) = u21 at *
           generalize u18.heap.size = z21 at *
           refine rd 13 fun K hK => ?_
           ·go_simp
            refine (HC2.out _ _ _ E21.out).mono ?_
            rintro e u22 ⟨rfl, hv, hk7, A7, c7, hm7, ht7⟩
            have E22 := kp (E21.out.call hk7 hm7 ht7)
            replace Pa := kp (Pa.out.call E21.out hk7 ht7)
            replace Pb := kp (Pb.out.call E21.out hk7 ht7)
            have VQ := kp hv
            unfold valV
            clear hv hk7 hm7 ht7
            refine hK.out _ _ E22.out.keepsW (fun hHeld => ?_)
            clear hK K
            obtain ⟨a0, a1, af⟩ := Bk.c2 Pa.out.cell
            have Q16 := kp (E22.out.fin hF Pa.out Pb.out Hne.out VP.out VQ.out)
            obtain ⟨b0, b1, bf⟩ := Bk.c2 Pb.out.cell
            have hne1 := Hne.out
            have hne2 := Ne.symm hne1
            refine rd 16 fun K hK => ?_
            go_simp
            refine hK.out _ _ ((E22.out.setK Pa.out pv)) (fun hHeld => ?_)
            clear hK K
            try simp only [pt]
            refine rd 17 fun K hK => ?_
            go_simp
            refine hK.out _ _ (((E22.out.setK2 Pa.out Pb.out pv qv))) (fun hHeld => ?_)
            clear hK K
            try simp only [pt]
            refine wpAnyH_done (by kernel_rfl) ?_ _
            go_wp2_with fail
            go_meet
            exact ⟨_, _, rfl, rfl, Q16.out⟩
         ·go_simp
          have E23 := kp (E17.out.alloc (.cells #[.int .i64 0, .int .i64 0] 69))
          have Pb := kp (Ab.new E17.out)
          have Hne := kp (show _ ≠ u17.heap.size from (Nat.ne_of_lt Pa.out.lt))
          replace Pa := kp (Pa.out.alloc (.cells #[.int .i64 0, .int .i64 0] 69))
          refine hK.out _ _ E23.out.keepsW (fun hHeld => ?_)
          clear hK K
          try simp only [pt]
          generalize World.alloc u17 (.cells #[.int .i64 0, .int .i64 0] 69) = u23 at *
          generalize u17.heap.size = z23 at *
          refine rd 6 fun K hK => ?_
          ·go_simp
           refine (HC1.out _ _ _ E23.out).mono ?_
           rintro e u24 ⟨rfl, hv, hk7, A7, c7, hm7, ht7⟩
           have E24 := kp (E23.out.call hk7 hm7 ht7)
           replace Pa := kp (Pa.out.call E23.out hk7 ht7)
           replace Pb := kp (Pb.out.call E23.out hk7 ht7)
           have VP := kp hv
           unfold valV
           clear hv hk7 hm7 ht7
           refine hK.out _ _ E24.out.keepsW (fun hHeld => ?_)
           clear hK K
           refine rd 13 fun K hK => ?_
           ·go_simp
            refine (HC2.out _ _ _ E24.out).mono ?_
            rintro e u25 ⟨rfl, hv, hk7, A7, c7, hm7, ht7⟩
            have E25 := kp (E24.out.call hk7 hm7 ht7)
            replace Pa := kp (Pa.out.call E24.out hk7 ht7)
            replace Pb := kp (Pb.out.call E24.out hk7 ht7)
            have VQ := kp hv
            unfold valV
            clear hv hk7 hm7 ht7
            refine hK.out _ _ E25.out.keepsW (fun hHeld => ?_)
            clear hK K
            obtain ⟨a0, a1, af⟩ := Bk.c2 Pa.out.cell
            have Q16 := kp (E25.out.fin hF Pa.out Pb.out Hne.out VP.out VQ.out)
            obtain ⟨b0, b1, bf⟩ := Bk.c2 Pb.out.cell
            have hne1 := Hne.out
            have hne2 := Ne.symm hne1
            refine rd 16 fun K hK => ?_
            go_simp
            refine hK.out _ _ ((E25.out.setK Pa.out pv)) (fun hHeld => ?_)
            clear hK K
            try simp only [pt]
            refine rd 17 fun K hK => ?_
            go_simp
            refine hK.out _ _ (((E25.out.setK2 Pa.out Pb.out pv qv))) (fun hHeld => ?_)
            clear hK K
            try simp only [pt]
            refine wpAnyH_done (by kernel_rfl) ?_ _
            go_wp2_with fail
            go_meet
            exact ⟨_, _, rfl, rfl, Q16.out⟩
        ·go_simp
         have E26 := kp (E0.out.alloc (.cells #[.int .i64 0, .int .i64 0] 69))
         have Pb := kp (Ab.new E0.out)
         refine hK.out _ _ E26.out.keepsW (fun hHeld => ?_)
         clear hK K
         try simp only [pt]
         generalize World.alloc wd (.cells #[.int .i64 0, .int .i64 0] 69) = u26 at *
         generalize wd.heap.size = z26 at *
         refine wpAnyH_ready (rs := [6, 14]) (by kernel_rfl) (by simp) ?_
         refine AllReadyH.cons (o := Oper.mk _ _ _ _ _ _) rfl (fun K hK => ?_) (AllReadyH.cons (o := Oper.mk _ _ _ _ _ _) rfl (fun K hK => ?_) (AllReadyH.nil))
         ·go_simp
          refine (HC1.out _ _ _ E26.out).mono ?_
          rintro e u27 ⟨rfl, hv, hk7, A7, c7, hm7, ht7⟩
          have E27 := kp (E26.out.call hk7 hm7 ht7)
          replace Pb := kp (Pb.out.call E26.out hk7 ht7)
          have VP := kp hv
          unfold valV
          clear hv hk7 hm7 ht7
          refine hK.out _ _ E27.out.keepsW (fun hHeld => ?_)
          clear hK K
          refine wpAnyH_ready (rs := [13, 14]) (by kernel_rfl) (by simp) ?_
          refine AllReadyH.cons (o := Oper.mk _ _ _ _ _ _) rfl (fun K hK => ?_) (AllReadyH.cons (o := Oper.mk _ _ _ _ _ _) rfl (fun K hK => ?_) (AllReadyH.nil))
          ·go_simp
           refine (HC2.out _ _ _ E27.out).mono ?_
           rintro e u28 ⟨rfl, hv, hk7, A7, c7, hm7, ht7⟩
           have E28 := kp (E27.out.call hk7 hm7 ht7)
           replace Pb := kp (Pb.out.call E27.out hk7 ht7)
           have VQ := kp hv
           unfold valV
           clear hv hk7 hm7 ht7
           refine hK.out _ _ E28.out.keepsW (fun hHeld => ?_)
           clear hK K
           refine rd 14 fun K hK => ?_
           ·go_simp
            have E29 := kp (E28.out.alloc (.cells #[.int .i64 0, .int .i64 0] 69))
            have Pa := kp (Ab.new E28.out)
            have Hne := kp (show u28.heap.size ≠ _ from (Ne.symm (Nat.ne_of_lt Pb.out.lt)))
            replace Pb := kp (Pb.out.alloc (.cells #[.int .i64 0, .int .i64 0] 69))
            refine hK.out _ _ E29.out.keepsW (fun hHeld => ?_)
            clear hK K
            try simp only [pt]
            generalize World.alloc u28 (.cells #[.int .i64 0, .int .i64 0] 69) = u29 at *
            generalize u28.heap.size = z29 at *
            obtain ⟨a0, a1, af⟩ := Bk.c2 Pa.out.cell
            have Q16 := kp (E29.out.fin hF Pa.out Pb.out Hne.out VP.out VQ.out)
            obtain ⟨b0, b1, bf⟩ := Bk.c2 Pb.out.cell
            have hne1 := Hne.out
            have hne2 := Ne.symm hne1
            refine rd 16 fun K hK => ?_
            go_simp
            refine hK.out _ _ ((E29.out.setK Pa.out pv)) (fun hHeld => ?_)
            clear hK K
            try simp only [pt]
            refine rd 17 fun K hK => ?_
            go_simp
            refine hK.out _ _ (((E29.out.setK2 Pa.out Pb.out pv qv))) (fun hHeld => ?_)
            clear hK K
            try simp only [pt]
            refine wpAnyH_done (by kernel_rfl) ?_ _
            go_wp2_with fail
            go_meet
            exact ⟨_, _, rfl, rfl, Q16.out⟩
          ·go_simp
           have E30 := kp (E27.out.alloc (.cells #[.int .i64 0, .int .i64 0] 69))
           have Pa := kp (Ab.new E27.out)
           have Hne := kp (show u27.heap.size ≠ _ from (Ne.symm (Nat.ne_of_lt Pb.out.lt)))
           replace Pb := kp (Pb.out.alloc (.cells #[.int .i64 0, .int .i64 0] 69))
           refine hK.out _ _ E30.out.keepsW (fun hHeld => ?_)
           clear hK K
           try simp only [pt]
           generalize World.alloc u27 (.cells #[.int .i64 0, .int .i64 0] 69) = u30 at *
           generalize u27.heap.size = z30 at *
           refine rd 13 fun K hK => ?_
           ·go_simp
            refine (HC2.out _ _ _ E30.out).mono ?_
            rintro e u31 ⟨rfl, hv, hk7, A7, c7, hm7, ht7⟩
            have E31 := kp (E30.out.call hk7 hm7 ht7)
            replace Pa := kp (Pa.out.call E30.out hk7 ht7)
            replace Pb := kp (Pb.out.call E30.out hk7 ht7)
            have VQ := kp hv
            unfold valV
            clear hv hk7 hm7 ht7
            refine hK.out _ _ E31.out.keepsW (fun hHeld => ?_)
            clear hK K
            obtain ⟨a0, a1, af⟩ := Bk.c2 Pa.out.cell
            have Q16 := kp (E31.out.fin hF Pa.out Pb.out Hne.out VP.out VQ.out)
            obtain ⟨b0, b1, bf⟩ := Bk.c2 Pb.out.cell
            have hne1 := Hne.out
            have hne2 := Ne.symm hne1
            refine rd 16 fun K hK => ?_
            go_simp
            refine hK.out _ _ ((E31.out.setK Pa.out pv)) (fun hHeld => ?_)
            clear hK K
            try simp only [pt]
            refine rd 17 fun K hK => ?_
            go_simp
            refine hK.out _ _ (((E31.out.setK2 Pa.out Pb.out pv qv))) (fun hHeld => ?_)
            clear hK K
            try simp only [pt]
            refine wpAnyH_done (by kernel_rfl) ?_ _
            go_wp2_with fail
            go_meet
            exact ⟨_, _, rfl, rfl, Q16.out⟩
         ·go_simp
          have E32 := kp (E26.out.alloc (.cells #[.int .i64 0, .int .i64 0] 69))
          have Pa := kp (Ab.new E26.out)
          have Hne := kp (show u26.heap.size ≠ _ from (Ne.symm (Nat.ne_of_lt Pb.out.lt)))
          replace Pb := kp (Pb.out.alloc (.cells #[.int .i64 0, .int .i64 0] 69))
          refine hK.out _ _ E32.out.keepsW (fun hHeld => ?_)
          clear hK K
          try simp only [pt]
          generalize World.alloc u26 (.cells #[.int .i64 0, .int .i64 0] 69) = u32 at *
          generalize u26.heap.size = z32 at *
          refine rd 6 fun K hK => ?_
          ·go_simp
           refine (HC1.out _ _ _ E32.out).mono ?_
           rintro e u33 ⟨rfl, hv, hk7, A7, c7, hm7, ht7⟩
           have E33 := kp (E32.out.call hk7 hm7 ht7)
           replace Pa := kp (Pa.out.call E32.out hk7 ht7)
           replace Pb := kp (Pb.out.call E32.out hk7 ht7)
           have VP := kp hv
           unfold valV
           clear hv hk7 hm7 ht7
           refine hK.out _ _ E33.out.keepsW (fun hHeld => ?_)
           clear hK K
           refine rd 13 fun K hK => ?_
           ·go_simp
            refine (HC2.out _ _ _ E33.out).mono ?_
            rintro e u34 ⟨rfl, hv, hk7, A7, c7, hm7, ht7⟩
            have E34 := kp (E33.out.call hk7 hm7 ht7)
            replace Pa := kp (Pa.out.call E33.out hk7 ht7)
            replace Pb := kp (Pb.out.call E33.out hk7 ht7)
            have VQ := kp hv
            unfold valV
            clear hv hk7 hm7 ht7
            refine hK.out _ _ E34.out.keepsW (fun hHeld => ?_)
            clear hK K
            obtain ⟨a0, a1, af⟩ := Bk.c2 Pa.out.cell
            have Q16 := kp (E34.out.fin hF Pa.out Pb.out Hne.out VP.out VQ.out)
            obtain ⟨b0, b1, bf⟩ := Bk.c2 Pb.out.cell
            have hne1 := Hne.out
            have hne2 := Ne.symm hne1
            refine rd 16 fun K hK => ?_
            go_simp
            refine hK.out _ _ ((E34.out.setK Pa.out pv)) (fun hHeld => ?_)
            clear hK K
            try simp only [pt]
            refine rd 17 fun K hK => ?_
            go_simp
            refine hK.out _ _ (((E34.out.setK2 Pa.out Pb.out pv qv))) (fun hHeld => ?_)
            clear hK K
            try simp only [pt]
            refine wpAnyH_done (by kernel_rfl) ?_ _
            go_wp2_with fail
            go_meet
            exact ⟨_, _, rfl, rfl, Q16.out⟩
       case rest =>
        obtain ⟨ab, bb, rfl, rfl, Aq, cq, hmid, hkq, hab, hbb, hla, hlb', hvp, hvq⟩ := hcut
        have D4 := kp hmid
        have PA := kp hab
        have PB := kp hbb
        clear hmid hkq hab hbb hla hlb'
        replace HDR := kp (show resR = heldM F.c (turnN name) pv qv n qs by rw [HDR.out, HRa.out]; dsimp only; rw [HRb.out])
        generalize hwq : wc = wq at *
        clear hwq
        have M0 := kp (KeyMap.made (kt := 9) (key := Value.string) wq)
        have K0 := kp (show Keeps (fun k => k = wq.heap.size) wq (wq.alloc (.map #[] 0)) from (Keeps.refl _ _).alloc _)
        generalize hv0 : wq.alloc (.map #[] 0) = v0 at *
        obtain ⟨v1, u1, m1, g1⟩ := KeyMap.store (a := sLe) (t := 170) (e := 9) M0.out string_key str_inj Tryz.underlying170 (by decide) (keyOf_str (by decide)) (.string { data := #[62, 61] })
        replace u1 : (Instr.mapUpdate 170 (.map (some wq.heap.size)) (.string { data := #[60, 61] }) (.string { data := #[62, 61] })).run Tryz.prog v0 = .ok () v1 := u1
        have M1 := kp m1
        have K1 := kp (K0.out.grown g1 (fun k hk => .inl (Option.some.inj hk).symm))
        clear m1 g1
        obtain ⟨v2, u2, m2, g2⟩ := KeyMap.store (a := sLt) (t := 170) (e := 9) M1.out string_key str_inj Tryz.underlying170 (by decide) (keyOf_str (by decide)) (.string { data := #[62] })
        replace u2 : (Instr.mapUpdate 170 (.map (some wq.heap.size)) (.string { data := #[60] }) (.string { data := #[62] })).run Tryz.prog v1 = .ok () v2 := u2
        have M2 := kp m2
        have K2 := kp (K1.out.grown g2 (fun k hk => .inl (Option.some.inj hk).symm))
        clear m2 g2
        obtain ⟨v3, u3, m3, g3⟩ := KeyMap.store (a := sGe) (t := 170) (e := 9) M2.out string_key str_inj Tryz.underlying170 (by decide) (keyOf_str (by decide)) (.string { data := #[60, 61] })
        replace u3 : (Instr.mapUpdate 170 (.map (some wq.heap.size)) (.string { data := #[62, 61] }) (.string { data := #[60, 61] })).run Tryz.prog v2 = .ok () v3 := u3
        have M3 := kp m3
        have K3 := kp (K2.out.grown g3 (fun k hk => .inl (Option.some.inj hk).symm))
        clear m3 g3
        obtain ⟨v4, u4, m4, g4⟩ := KeyMap.store (a := sGt) (t := 170) (e := 9) M3.out string_key str_inj Tryz.underlying170 (by decide) (keyOf_str (by decide)) (.string { data := #[60] })
        replace u4 : (Instr.mapUpdate 170 (.map (some wq.heap.size)) (.string { data := #[62] }) (.string { data := #[60] })).run Tryz.prog v3 = .ok () v4 := u4
        have M4 := kp m4
        have K4 := kp (K3.out.grown g4 (fun k hk => .inl (Option.some.inj hk).symm))
        clear m4 g4
        obtain ⟨v5, u5, m5, g5⟩ := KeyMap.store (a := sEq) (t := 170) (e := 9) M4.out string_key str_inj Tryz.underlying170 (by decide) (keyOf_str (by decide)) (.string { data := #[61] })
        replace u5 : (Instr.mapUpdate 170 (.map (some wq.heap.size)) (.string { data := #[61] }) (.string { data := #[61] })).run Tryz.prog v4 = .ok () v5 := u5
        have M5 := kp m5
        have K5 := kp (K4.out.grown g5 (fun k hk => .inl (Option.some.inj hk).symm))
        clear m5 g5
        have hmm := @run_makeMap Tryz.prog
        subst hv0
        have HM := kp (show KeyMap 9 Value.string v5 wq.heap.size 5 turnF from M5.out)
        have B13 := kp (K5.out.below (B := wq.heap.size) (fun k e => by subst e; exact Nat.le_refl _) (Nat.le_refl _))
        have hlk := HM.out.get (a := name) string_key Tryz.underlying170 (zero_str v5) (keyOf_str hnm)
        rw [turn_get HCm.out] at hlk
        have D5 := kp (D4.out.below B13.out)
        have P5 := kp (Bk.on PA.out B13.out)
        have Q5 := kp (Bk.on PB.out B13.out)
        have HHe := kp (held_any hF D5.out.maker (turnN name) pv qv hvp hvq n HLim.out)
        rw [show heldM F.c (turnN name) pv qv n qs = resR from HDR.out.symm] at HHe
        clear M0 M1 M2 M3 M4 M5 K0 K1 K2 K3 K4 K5 HM B13
        obtain ⟨a0, a1, af⟩ := Bk.c2 P5.out
        obtain ⟨b0, b1, bf⟩ := Bk.c2 Q5.out
        generalize turnN name = tn at *
        go_wp2_with fail
        refine HHe.out.mono ?_
        rintro e w8 ⟨rfl, hv, hk6, A6, c6, hm6, ht6⟩
        have D8 := kp (D5.out.call hk6 hm6 ht6)
        unfold valV
        clear hk6 hm6 ht6 a0 a1 af b0 b1 bf
        obtain ⟨r0, r1, rf⟩ := Bk.c2 D8.out.cell
        go_wp2_with fail
        rw [HS.out]
        refine D8.out.ret2 (v := resR.1) hF Tryz.results81 ?_ ?_ ?_ hv <;> rfl
  | false =>
   have hdn : dn = 0 := HD.out.trans (if_neg (fun h => by rw [h.2] at hcm; cases hcm))
   replace HS := kp (show res = ((v0, false), st) by rw [HS.out, hdn]; rfl)
   clear hdn
   rw [hcm] at HCo
   clear h3 hcm
   go_wp2_with fail
   refine (HCo.out _ (Below.refl _ _)).mono ?_
   rintro e w2 ⟨rfl, rfl⟩
   clear q0 q1 q2 qf
   obtain ⟨r0, r1, rf⟩ := Bk.c2 DZ.out.cell
   go_wp2_with fail
   rw [HS.out]
   refine DZ.out.ret2 (v := v0) hF Tryz.results81 ?_ ?_ ?_ v0_VI <;> rfl
 ·have g2 : ((x.l.length : Int) != 3) = true := by rw [bne_iff_ne]; omega
  have hdn : dn = 0 := HD.out.trans (if_neg (fun h => h3 h.1))
  replace HS := kp (show res = ((v0, false), st) by rw [HS.out, hdn]; rfl)
  clear hdn
  clear h3
  go_upto_region 2 with fail
  clear q0 q1 q2 qf HCo SZ
  obtain ⟨r0, r1, rf⟩ := Bk.c2 D1.out.cell
  go_wp2_with fail
  rw [HS.out]
  refine D1.out.ret2 (v := v0) hF Tryz.results81 ?_ ?_ ?_ v0_VI <;> rfl
end Go.Proofs.YtpmdcckapddchaaGreat.El
