import Derived.Test.YtpmdcckapddchaaGreatShort
import Derived.Test.YtpmdcckapddchaaGreatMze
import Derived.Test.YtpmdcckapddchaaGreatMc
import Derived.Test.YtpmdcckapddchaaGreatMz
import Derived.Test.YtpmdcckapddchaaGreatMb
import Derived.Deep.CutRange
import Derived.Test.YtpmdcckapddchaaGreatRows
import Derived.Test.YtpmdcckapddchaaGreatMa
/- merged by wip/merge.py from: Law7Lets ElabLetsCard -/
/- ElabLets: a let of a name that stands for a term, and is all there is, is that term. -/
namespace Go.Proofs.YtpmdcckapddchaaGreat.El
open Go.RowKit Go.Proofs.YtpmdcckapddchaaGreat.Dt Go.Proofs.YtpmdcckapddchaaGreat.Sg

set_option maxHeartbeats 1600000 in
theorem tsame_any {w : World} {A B : Option Addr} {xs ys : List Node} (c d : Nat) (hx : Lies 8 NodeR w A xs) (hy : Lies 8 NodeR w B ys) (hl : (xs.length : Int) ≤ 9223372036854775807) :
  Calls Tryz.prog 15 #[.agg #[.slice A xs.length c], .agg #[.slice B ys.length d]] w fun e w' => e = .returned (.bool (decide (xs = ys))) ∧ Below w.heap.size w w' := by
 have B2 := kp (((Below.refl w.heap.size w).alloc (Nat.le_refl _) (.cells #[.slice A xs.length c] 38)).alloc (by simp) (.cells #[.slice B ys.length d] 38))
 have HE := kp (eqNodes_any c d (hx.on NodeR.lasts B2.out) (hy.on NodeR.lasts B2.out) hl)
 go_enter Tryz.func15, Tryz.ntmps15
 go_wp2_with fail
 refine HE.out.mono ?_
 rintro e w3 ⟨rfl, hb⟩
 have B3 := kp (B2.out.trans (hb.mono B2.out.size))
 clear hb
 go_wp2_with fail
 go_ret
 exact ⟨rfl, B3.out⟩
def TermCut (W : World) (o : List Node × Int × Int) (v7 v8 v9 : Value) (V : World) : Prop :=
 ∃ tb A' c', v7 = .pointer (some ⟨tb, 0, none⟩) ∧ v8 = .int .i64 o.2.1 ∧ v9 = .int .i64 o.2.2 ∧ V.heap[tb]? = some (.cells #[.slice A' o.1.length c'] 38 (0, 0)) ∧ W.heap.size ≤ tb ∧ Below W.heap.size W V ∧ Lies 8 NodeR V A' o.1 ∧ o.1.length ≤ c' ∧ c' ≤ maxLen ∧ o.1.length ≤ 1000000 ∧ I64 o.2.1
theorem sum_mem {ms : List Macro} {k : Nat} (h : sumOf (fun m : Macro => m.body.full) ms ≤ k) : ∀ m ∈ ms, m.body.full ≤ k := fun _ hm => Nat.le_trans (sumOf_mem (sz := fun m : Macro => m.body.full) hm) h
def LetCut (W : World) (x : Sexp) (v6 : Value) (V : World) : Prop :=
 ∃ tb A', v6 = .pointer (some ⟨tb, 0, none⟩) ∧ V.heap[tb]? = some (.cells #[.int .i8 3, .string { data := #[] }, .slice A' 3 3] 30 (0, 0)) ∧ W.heap.size ≤ tb ∧ Below W.heap.size W V ∧ XAt V A' 3 (letX x)
theorem sym_ok (W : World) (s : ByteArray) (h : s.size ≤ 1000) : sxOk W (symX s, none, 0) := SexpR.make (w := W) (A := none) (k := 0) (t := s) (c := 0) (l := []) (.inl rfl) (Nat.le_refl _) (Nat.zero_le _) (by omega) (by simp) (by decide)
theorem let_at {W : World} {l1 l2 l3 : Nat} {x : Sexp} {A : Option Addr} {c : Nat} (h1 : W.heap[l1]? = some (.cells (flatV sxV [(symX nmN, none, 0), (x, A, c), (symX { data := #[] }, none, 0)]).toArray 30 (0, 0)))
  (h2 : W.heap[l2]? = some (.cells (flatV sxV [(pairX nmN x, some ⟨l1, 0, none⟩, 3), (symX { data := #[] }, none, 0), (symX { data := #[] }, none, 0)]).toArray 30 (0, 0)))
  (h3 : W.heap[l3]? = some (.cells (flatV sxV [(symX sLet, none, 0), (.mk 3 noB [pairX nmN x], some ⟨l2, 0, none⟩, 3), (symX nmN, none, 0)]).toArray 30 (0, 0)))
  (hx : XAt W A c x) : XAt W (some ⟨l3, 0, none⟩) 3 (letX x) := by
 have e1 : sxOk W (symX nmN, none, 0) := sym_ok W nmN (by decide)
 have e0 : sxOk W (symX { data := #[] }, none, 0) := sym_ok W _ (by decide)
 have eL : sxOk W (symX sLet, none, 0) := sym_ok W sLet (by decide)
 have p1 : XAt W (some ⟨l1, 0, none⟩) 3 (pairX nmN x) := list_at h1 (by intro y hy; simp only [List.mem_cons, List.not_mem_nil, or_false] at hy; rcases hy with rfl | rfl | rfl; exact e1; exact hx; exact e0) (n := 2) (by simp) rfl
 have p2 : XAt W (some ⟨l2, 0, none⟩) 3 (.mk 3 noB [pairX nmN x]) := list_at h2 (by intro y hy; simp only [List.mem_cons, List.not_mem_nil, or_false] at hy; rcases hy with rfl | rfl | rfl; exact p1; exact e0; exact e0) (n := 1) (by simp) rfl
 exact list_at h3 (by intro y hy; simp only [List.mem_cons, List.not_mem_nil, or_false] at hy; rcases hy with rfl | rfl | rfl; exact eL; exact p2; exact e1) (n := 3) (by simp) rfl
theorem depth_full : ∀ (n : Nat) (x : Sexp), SizeOf.sizeOf x < n → x.full ≤ 3000000 → 0 ≤ x.depth ∧ x.depth ≤ x.full := by
 intro n
 induction n with
 | zero => intro x hx; omega
 | succ n ih =>
  intro x hx hf
  have hL : ∀ l : List Sexp, (∀ y ∈ l, 0 ≤ y.depth ∧ y.depth ≤ y.full) → 0 ≤ Sexp.depthL l ∧ Sexp.depthL l ≤ Sexp.fullL l := by
   intro l
   induction l with
   | nil => intro _; rw [Sexp.depthL, Sexp.fullL_nil]; omega
   | cons y r ihr =>
    intro h
    have h1 := h y (by simp)
    have h2 := ihr (fun z hz => h z (by simp [hz]))
    rw [Sexp.depthL, Sexp.fullL_cons]
    omega
  have h1 := hL x.l (fun y hy => ih y (by have := Sexp.mem_lt hy; omega) (by have := full_mem hy; omega))
  rw [Sexp.depth_eq]
  have h2 := Sexp.full_eq x
  split
  ·rw [IntWalk.wrap64_in _ (by omega)]; omega
  ·omega
theorem depth3 {t : ByteArray} {l : List Sexp} {n : Int} (h : Sexp.depthL l = n) (h0 : 0 ≤ n) (h1 : n ≤ 1000000000) : (Sexp.mk 3 t l).depth = n + 1 := by
 rw [Sexp.depth_eq]
 show (if (3 : Int) = 3 then wrap64 (Sexp.depthL l + 1) else 0) = n + 1
 rw [if_pos rfl, h, IntWalk.wrap64_in _ (by omega)]
theorem may_let {x : Sexp} (hf : x.full ≤ 3000000) (h : (letX x).may = true) : x.may = true := by
 have hd := depth_full _ x (Nat.lt_succ_self _) hf
 unfold Sexp.may at *
 rw [Bool.and_eq_true, decide_eq_true_eq] at *
 have d0 : ∀ s, (symX s).depth = 0 := fun s => by rw [Sexp.depth_eq]; rfl
 have p1 : (pairX nmN x).depth = x.depth + 1 := depth3 (by simp only [Sexp.depthL, d0]; omega) hd.1 (by omega)
 have p2 : (Sexp.mk 3 noB [pairX nmN x]).depth = x.depth + 1 + 1 := depth3 (by simp only [Sexp.depthL, p1]; omega) (by omega) (by omega)
 have p3 : (letX x).depth = x.depth + 1 + 1 + 1 := depth3 (by simp only [Sexp.depthL, p2, d0]; omega) (by omega) (by omega)
 refine ⟨by omega, ?_⟩
 have s1 := l_stands h.2 (.mk 3 noB [pairX nmN x]) (by simp [letX, Sexp.l])
 have s2 := l_stands s1 (pairX nmN x) (by simp [Sexp.l])
 exact l_stands s2 x (by simp [pairX, Sexp.l])
theorem full_let (x : Sexp) : (letX x).full ≤ x.full + 60 := by
 unfold letX pairX symX
 simp only [Sexp.full_eq, Sexp.fullL_cons, Sexp.fullL_nil, Sexp.l, Sexp.text]
 rw [show nmN.size = 23 from rfl, show sLet.size = 3 from rfl, show noB.size = 0 from rfl]
 omega
theorem makes_new {w : World} {A1 A2 A3 : Option Addr} {c1 c2 c3 : Nat} {g : Sig} (hs : g.sorts.length ≤ 1000000 ∧ g.funs.length ≤ 1000000 ∧ g.macros.length ≤ 1000000) (hM : ∀ m ∈ g.macros, m.body.full ≤ 3000000) {x : Sexp} (hf : x.full ≤ 3000000)
  (h : SigAt w A1 c1 A2 c2 A3 c3 g) (At : Option Addr) (ht : Lies 8 NodeR w At newT) {A : Option Addr} {c : Nat} (hx : XAt w A c x) :
  Calls Tryz.prog 13 #[.agg #[.slice A1 g.sorts.length c1, .slice A2 g.funs.length c2, .slice A3 g.macros.length c3], .agg #[.slice At 2 2], .agg #[.int .i8 x.kind, .string x.text, .slice A x.l.length c], .int .i64 200] w (MakesPost w (termO g newT x 200)) :=
 makes_any h hs.1 hs.2.1 hs.2.2 hM ht (by decide) (by decide) (by unfold maxLen; decide) hx hf 200 ⟨by decide, by decide⟩ (by decide) (ct := 2)
set_option maxRecDepth 100000 in
set_option maxHeartbeats 25600000 in
theorem lets_all {w : World} {A1 A2 A3 : Option Addr} {c1 c2 c3 : Nat} {g : Sig} (h : SigAt w A1 c1 A2 c2 A3 c3 g) {A : Option Addr} {c : Nat} {x : Sexp} (hx : XAt w A c x) (hM : sumOf (fun m : Macro => m.body.full) g.macros ≤ 1048576) (hf : x.full ≤ 1048576) :
  Calls Tryz.prog 3 #[.agg #[.slice A1 g.sorts.length c1, .slice A2 g.funs.length c2, .slice A3 g.macros.length c3], .agg #[.int .i8 x.kind, .string x.text, .slice A x.l.length c]] w fun e w' => e = .returned (.bool true) ∧ Below w.heap.size w w' := by
 have B2 := kp (((Below.refl w.heap.size w).alloc (Nat.le_refl _) (.cells #[.slice A1 g.sorts.length c1, .slice A2 g.funs.length c2, .slice A3 g.macros.length c3] 26)).alloc (by simp) (.cells #[.int .i8 x.kind, .string x.text, .slice A x.l.length c] 30))
 have G2 := kp (Bk.keep (Bk.new w (.cells #[.slice A1 g.sorts.length c1, .slice A2 g.funs.length c2, .slice A3 g.macros.length c3] 26)) (.cells #[.int .i8 x.kind, .string x.text, .slice A x.l.length c] 30))
 have X2 := kp (show ((w.alloc (.cells #[.slice A1 g.sorts.length c1, .slice A2 g.funs.length c2, .slice A3 g.macros.length c3] 26)).alloc (.cells #[.int .i8 x.kind, .string x.text, .slice A x.l.length c] 30)).heap[w.heap.size + 1]? = some (.cells #[.int .i8 x.kind, .string x.text, .slice A x.l.length c] 30 (0, 0)) by
  have h := Bk.new (w.alloc (.cells #[.slice A1 g.sorts.length c1, .slice A2 g.funs.length c2, .slice A3 g.macros.length c3] 26)) (.cells #[.int .i8 x.kind, .string x.text, .slice A x.l.length c] 30); simpa using h)
 have SG2 := kp (h.on B2.out)
 have XA2 := kp (hx.on B2.out)
 have HWk := kp wakes_any
 have HG3 := kp (fun W (h : XAt W A c x) => great3_any h (by omega))
 have HG4 := kp (fun W (h : SigAt W A1 c1 A2 c2 A3 c3 g) => Gr.great4_any h)
 have HMf := kp (sum_mem hM)
 have HFx := kp hf
 clear h hx hM hf
 go_enter Tryz.func3, Tryz.ntmps3
 go_upto_region 1 with fail
 generalize (w.alloc (.cells #[.slice A1 g.sorts.length c1, .slice A2 g.funs.length c2, .slice A3 g.macros.length c3] 26)).alloc (.cells #[.int .i8 x.kind, .string x.text, .slice A x.l.length c] 30) = w2 at *
 obtain ⟨g0, g1, g2, gf⟩ := Bk.c3 G2.out
 obtain ⟨x0, x1, x2, xf⟩ := Bk.c3 X2.out
 go_wp2_with fail
 refine (HG3.out _ XA2.out).mono ?_
 rintro e w3 ⟨⟨b1, rfl, hb1⟩, hb3⟩
 have B3 := kp (B2.out.trans (hb3.mono B2.out.size))
 have G3 := kp (Bk.on G2.out hb3)
 have X3 := kp (Bk.on X2.out hb3)
 have SG3 := kp (SG2.out.on hb3)
 have XA3 := kp (XA2.out.on hb3)
 clear hb3 hb1 g0 g1 g2 gf x0 x1 x2 xf B2 G2 X2 SG2 XA2
 cases b1 with
 | true =>
  go_wp2_with fail
  refine (HWk.out _).mono ?_
  rintro e w4 ⟨rfl, hb4⟩
  have B4 := kp (B3.out.trans (hb4.mono B3.out.size))
  clear hb4
  go_wp2_with fail
  go_ret
  exact ⟨rfl, B4.out⟩
 | false =>
  obtain ⟨g0, g1, g2, gf⟩ := Bk.c3 G3.out
  go_wp2_with fail
  refine (HG4.out _ SG3.out).mono ?_
  rintro e w4 ⟨⟨b2, rfl, hb2⟩, hb4⟩
  have B4 := kp (B3.out.trans (hb4.mono B3.out.size))
  have G4 := kp (Bk.on G3.out hb4)
  have X4 := kp (Bk.on X3.out hb4)
  have SG4 := kp (SG3.out.on hb4)
  have XA4 := kp (XA3.out.on hb4)
  have HSm := kp hb2
  clear hb4 hb2 g0 g1 g2 gf B3 G3 X3 SG3 XA3
  cases b2 with
  | true =>
   go_wp2_with fail
   refine (HWk.out _).mono ?_
   rintro e w5 ⟨rfl, hb5⟩
   have B5 := kp (B4.out.trans (hb5.mono B4.out.size))
   clear hb5
   go_wp2_with fail
   go_ret
   exact ⟨rfl, B5.out⟩
  | false =>
   have HSm2 := kp (HSm.out rfl)
   have B5 := kp (B4.out.alloc B4.out.size (.cells #[.int .i8 0, .string nmN, .slice none 0 0] 30))
   have V5 := kp (Bk.new w4 (.cells #[.int .i8 0, .string nmN, .slice none 0 0] 30))
   have G5 := kp (Bk.keep G4.out (.cells #[.int .i8 0, .string nmN, .slice none 0 0] 30))
   have X5 := kp (Bk.keep X4.out (.cells #[.int .i8 0, .string nmN, .slice none 0 0] 30))
   have SG5 := kp (SG4.out.on ((Below.refl w4.heap.size w4).alloc (Nat.le_refl _) (.cells #[.int .i8 0, .string nmN, .slice none 0 0] 30)))
   have XA5 := kp (XA4.out.on ((Below.refl w4.heap.size w4).alloc (Nat.le_refl _) (.cells #[.int .i8 0, .string nmN, .slice none 0 0] 30)))
   have HPr := kp (fun W => pair_any W nmN (x, A, c))
   have HL1 := kp (fun W l1 => list_any W (pairX nmN x, some ⟨l1, 0, none⟩, 3) (symX { data := #[] }, none, 0) (symX { data := #[] }, none, 0) 1 (by omega))
   have HL2 := kp (fun W l2 => list_any W (symX sLet, none, 0) (.mk 3 noB [pairX nmN x], some ⟨l2, 0, none⟩, 3) (symX nmN, none, 0) 3 (by omega))
   have ev1 : sxV (x, A, c) = [.int .i8 x.kind, .string x.text, .slice A x.l.length c] := rfl
   have ev2 : ∀ l1, sxV (pairX nmN x, some ⟨l1, 0, none⟩, 3) = [.int .i8 3, .string { data := #[] }, .slice (some ⟨l1, 0, none⟩) 2 3] := fun _ => rfl
   have ev3 : ∀ s, sxV (symX s, none, 0) = [.int .i8 0, .string s, .slice none 0 0] := fun _ => rfl
   have ev4 : ∀ l2, sxV (.mk 3 noB [pairX nmN x], some ⟨l2, 0, none⟩, 3) = [.int .i8 3, .string { data := #[] }, .slice (some ⟨l2, 0, none⟩) 1 3] := fun _ => rfl
   unfold PairPost at HPr
   unfold ListPost at HL1 HL2
   simp only [ev1, ev2, ev3, ev4] at HPr HL1 HL2
   clear ev1 ev2 ev3 ev4
   go_upto_region 4 with fail
   show Code.wp _ _ _ _ (w4.alloc (.cells #[.int .i8 0, .string nmN, .slice none 0 0] 30))
   generalize hw5 : w4.alloc (.cells #[.int .i8 0, .string nmN, .slice none 0 0] 30) = w5 at *
   generalize w4.heap.size = vb at *
   clear hw5
   go_cut [6] from 21 to 30 (fun v6 V => LetCut w5 x v6 V)
   case first =>
    have VB := kp V5.out
    have XB := kp X5.out
    have XA := kp XA5.out
    have B0 := kp (Below.refl w5.heap.size w5).drew
    refine wp_region_held_drew (S := fun V => V.heap[vb]? = some (.cells #[.int .i8 0, .string nmN, .slice none 0 0] 30 (0, 0)) ∧ V.heap[w.heap.size + 1]? = some (.cells #[.int .i8 x.kind, .string x.text, .slice A x.l.length c] 30 (0, 0))) (by kernel_rfl) (⟨VB.out, XB.out⟩) (fun hHeld => ?_)
    refine tk 0 (v := ?_) ?_ ?_
    rotate_left
    ·(intro w hSw; go_simp; try with_reducible rfl)
    try simp only [pt]
    refine tk 1 (v := ?_) ?_ ?_
    rotate_left
    ·(intro w hSw; go_simp; try with_reducible rfl)
    try simp only [pt]
    refine tk 2 (v := ?_) ?_ ?_
    rotate_left
    ·(intro w hSw; (obtain ⟨x0, x1, x2, xf⟩ := Bk.c3 hSw.1; go_simp; try with_reducible rfl))
    try simp only [pt]
    refine tk 3 (v := ?_) ?_ ?_
    rotate_left
    ·(intro w hSw; (obtain ⟨x0, x1, x2, xf⟩ := Bk.c3 hSw.2; go_simp; try with_reducible rfl))
    try simp only [pt]
    refine tk 5 (v := ?_) ?_ ?_
    rotate_left
    ·(intro w hSw; go_simp; try with_reducible rfl)
    try simp only [pt]
    refine tk 6 (v := ?_) ?_ ?_
    rotate_left
    ·(intro w hSw; go_simp; try with_reducible rfl)
    try simp only [pt]
    refine tk 8 (v := ?_) ?_ ?_
    rotate_left
    ·(intro w hSw; (obtain ⟨x0, x1, x2, xf⟩ := Bk.c3 hSw.1; go_simp; try with_reducible rfl))
    try simp only [pt]
    generalize hwd : World.drew _ = wd at *
    clear hwd
    refine wpAnyH_ready (rs := [4, 10]) (by kernel_rfl) (by simp) ?_
    refine AllReadyH.cons (o := Oper.mk _ _ _ _ _ _) rfl (fun K hK => ?_) (AllReadyH.cons (o := Oper.mk _ _ _ _ _ _) rfl (fun K hK => ?_) AllReadyH.nil)
    ·skip
     go_simp
     go_wp2_with (go_at_call 11; refine (HPr.out _).mono ?_; rintro e wp ⟨⟨l1, rfl, hle, hl1⟩, hbp⟩; have BP := kp (B0.out.trans (hbp.mono B0.out.size)); have L1 := kp hl1; have HP := kp hbp; clear hle hl1 hbp)
     refine hK.out _ _ ⟨Bk.on VB.out BP.out, Bk.on XB.out BP.out⟩ (fun hHeld => ?_)
     clear hK K
     try simp only [pt]
     refine wpAnyH_ready (rs := [7, 10]) (by kernel_rfl) (by simp) ?_
     refine AllReadyH.cons (o := Oper.mk _ _ _ _ _ _) rfl (fun K hK => ?_) (AllReadyH.cons (o := Oper.mk _ _ _ _ _ _) rfl (fun K hK => ?_) AllReadyH.nil)
     ·skip
      go_simp
      go_wp2_with (go_at_call 10; refine (HL1.out _ _).mono ?_; rintro e wq ⟨⟨l2, rfl, hle, hl2⟩, hbq⟩; have BQ := kp (BP.out.trans (hbq.mono BP.out.size)); have L2 := kp hl2; have L1q := kp (Bk.on L1.out hbq); have HQ := kp hbq; clear hle hl2 hbq)
      refine hK.out _ _ ⟨Bk.on VB.out BQ.out, Bk.on XB.out BQ.out⟩ (fun hHeld => ?_)
      clear hK K
      try simp only [pt]
      refine wpAnyH_ready (rs := [9, 10]) (by kernel_rfl) (by simp) ?_
      refine AllReadyH.cons (o := Oper.mk _ _ _ _ _ _) rfl (fun K hK => ?_) (AllReadyH.cons (o := Oper.mk _ _ _ _ _ _) rfl (fun K hK => ?_) AllReadyH.nil)
      ·skip
       go_simp
       go_wp2_with (go_at_call 10; refine (HL2.out _ _).mono ?_; rintro e wr ⟨⟨l3, rfl, hle, hl3⟩, hbr⟩; have BR := kp (BQ.out.trans (hbr.mono BQ.out.size)); have L3 := kp hl3; have L1r := kp (Bk.on L1q.out hbr); have L2r := kp (Bk.on L2.out hbr); have HR := kp hbr; clear hle hl3 hbr)
       refine hK.out _ _ ⟨Bk.on VB.out BR.out, Bk.on XB.out BR.out⟩ (fun hHeld => ?_)
       clear hK K
       try simp only [pt]
       have hz := BR.out.size
       have BT := kp (BR.out.alloc BR.out.size (.cells #[.int .i8 0, .string { data := #[] }, .slice none 0 0] 30))
       have TT := kp (Bk.new wr (.cells #[.int .i8 0, .string { data := #[] }, .slice none 0 0] 30))
       have L1t := kp (Bk.keep L1r.out (.cells #[.int .i8 0, .string { data := #[] }, .slice none 0 0] 30))
       have L2t := kp (Bk.keep L2r.out (.cells #[.int .i8 0, .string { data := #[] }, .slice none 0 0] 30))
       have L3t := kp (Bk.keep L3.out (.cells #[.int .i8 0, .string { data := #[] }, .slice none 0 0] 30))
       refine rd 10 fun K hK => ?_
       go_simp
       refine hK.out _ _ ⟨Bk.on VB.out BT.out, Bk.on XB.out BT.out⟩ (fun hHeld => ?_)
       clear hK K
       try simp only [pt]
       generalize wr.alloc (.cells #[.int .i8 0, .string { data := #[] }, .slice none 0 0] 30) = wt at *
       generalize wr.heap.size = tb at *
       have hT := TT.out
       obtain ⟨t0, t1, t2, tf⟩ := Bk.c3 hT
       have n1 : l1 ≠ tb := fun e => by have h := L1t.out; rw [e, hT] at h; simp [flatV, sxV] at h
       have n2 : l2 ≠ tb := fun e => by have h := L2t.out; rw [e, hT] at h; simp [flatV, sxV] at h
       have n3 : l3 ≠ tb := fun e => by have h := L3t.out; rw [e, hT] at h; simp [flatV, sxV] at h
       refine rd 11 fun K hK => ?_
       go_simp
       refine hK.out _ _ (⟨Bk.apart (Bk.apart (Bk.apart (Bk.on VB.out BT.out) (p := ⟨tb, 0, none⟩) (Nat.ne_of_lt (Nat.lt_of_lt_of_le (lt_of_block VB.out) hz)) _) (p := ⟨tb, 1, none⟩) (Nat.ne_of_lt (Nat.lt_of_lt_of_le (lt_of_block VB.out) hz)) _) (p := ⟨tb, 2, none⟩) (Nat.ne_of_lt (Nat.lt_of_lt_of_le (lt_of_block VB.out) hz)) _, Bk.apart (Bk.apart (Bk.apart (Bk.on XB.out BT.out) (p := ⟨tb, 0, none⟩) (Nat.ne_of_lt (Nat.lt_of_lt_of_le (lt_of_block XB.out) hz)) _) (p := ⟨tb, 1, none⟩) (Nat.ne_of_lt (Nat.lt_of_lt_of_le (lt_of_block XB.out) hz)) _) (p := ⟨tb, 2, none⟩) (Nat.ne_of_lt (Nat.lt_of_lt_of_le (lt_of_block XB.out) hz)) _⟩) (fun hHeld => ?_)
       clear hK K
       try simp only [pt]
       refine wpAnyH_done (by kernel_rfl) ?_ _
       clear hHeld
       go_wp2_with fail
       go_meet
       have BS := set3'_below BT.out (b := tb) hz (.int .i8 3) (.string { data := #[] }) (.slice (some ⟨l3, 0, none⟩) 3 3)
       exact ⟨tb, _, rfl, set3'_at hT _ _ _, hz, BS, let_at (set3'_apart L1t.out n1 _ _ _) (set3'_apart L2t.out n2 _ _ _) (set3'_apart L3t.out n3 _ _ _) (XA.out.on BS)⟩
      ·skip
       have hz := BQ.out.size
       have BT := kp (BQ.out.alloc BQ.out.size (.cells #[.int .i8 0, .string { data := #[] }, .slice none 0 0] 30))
       have TT := kp (Bk.new wq (.cells #[.int .i8 0, .string { data := #[] }, .slice none 0 0] 30))
       have L1t := kp (Bk.keep L1q.out (.cells #[.int .i8 0, .string { data := #[] }, .slice none 0 0] 30))
       have L2t := kp (Bk.keep L2.out (.cells #[.int .i8 0, .string { data := #[] }, .slice none 0 0] 30))
       go_simp
       refine hK.out _ _ ⟨Bk.on VB.out BT.out, Bk.on XB.out BT.out⟩ (fun hHeld => ?_)
       clear hK K
       try simp only [pt]
       generalize wq.alloc (.cells #[.int .i8 0, .string { data := #[] }, .slice none 0 0] 30) = wt at *
       generalize wq.heap.size = tb at *
       refine rd 9 fun K hK => ?_
       go_simp
       go_wp2_with (go_at_call 10; refine (HL2.out _ _).mono ?_; rintro e wr ⟨⟨l3, rfl, hle, hl3⟩, hbr⟩; have BR := kp (BT.out.trans (hbr.mono BT.out.size)); have L3 := kp hl3; have L1r := kp (Bk.on L1t.out hbr); have L2r := kp (Bk.on L2t.out hbr); have HR := kp hbr; clear hle hl3 hbr)
       refine hK.out _ _ ⟨Bk.on VB.out BR.out, Bk.on XB.out BR.out⟩ (fun hHeld => ?_)
       clear hK K
       try simp only [pt]
       have TR := kp (Bk.on TT.out HR.out)
       have hT := TR.out
       obtain ⟨t0, t1, t2, tf⟩ := Bk.c3 hT
       have n1 : l1 ≠ tb := fun e => by have h := L1r.out; rw [e, hT] at h; simp [flatV, sxV] at h
       have n2 : l2 ≠ tb := fun e => by have h := L2r.out; rw [e, hT] at h; simp [flatV, sxV] at h
       have n3 : l3 ≠ tb := fun e => by have h := L3.out; rw [e, hT] at h; simp [flatV, sxV] at h
       refine rd 11 fun K hK => ?_
       go_simp
       refine hK.out _ _ (⟨Bk.apart (Bk.apart (Bk.apart (Bk.on VB.out BR.out) (p := ⟨tb, 0, none⟩) (Nat.ne_of_lt (Nat.lt_of_lt_of_le (lt_of_block VB.out) hz)) _) (p := ⟨tb, 1, none⟩) (Nat.ne_of_lt (Nat.lt_of_lt_of_le (lt_of_block VB.out) hz)) _) (p := ⟨tb, 2, none⟩) (Nat.ne_of_lt (Nat.lt_of_lt_of_le (lt_of_block VB.out) hz)) _, Bk.apart (Bk.apart (Bk.apart (Bk.on XB.out BR.out) (p := ⟨tb, 0, none⟩) (Nat.ne_of_lt (Nat.lt_of_lt_of_le (lt_of_block XB.out) hz)) _) (p := ⟨tb, 1, none⟩) (Nat.ne_of_lt (Nat.lt_of_lt_of_le (lt_of_block XB.out) hz)) _) (p := ⟨tb, 2, none⟩) (Nat.ne_of_lt (Nat.lt_of_lt_of_le (lt_of_block XB.out) hz)) _⟩) (fun hHeld => ?_)
       clear hK K
       try simp only [pt]
       refine wpAnyH_done (by kernel_rfl) ?_ _
       clear hHeld
       go_wp2_with fail
       go_meet
       have BS := set3'_below BR.out (b := tb) hz (.int .i8 3) (.string { data := #[] }) (.slice (some ⟨l3, 0, none⟩) 3 3)
       exact ⟨tb, _, rfl, set3'_at hT _ _ _, hz, BS, let_at (set3'_apart L1r.out n1 _ _ _) (set3'_apart L2r.out n2 _ _ _) (set3'_apart L3.out n3 _ _ _) (XA.out.on BS)⟩
     ·skip
      have hz := BP.out.size
      have BT := kp (BP.out.alloc BP.out.size (.cells #[.int .i8 0, .string { data := #[] }, .slice none 0 0] 30))
      have TT := kp (Bk.new wp (.cells #[.int .i8 0, .string { data := #[] }, .slice none 0 0] 30))
      have L1t := kp (Bk.keep L1.out (.cells #[.int .i8 0, .string { data := #[] }, .slice none 0 0] 30))
      go_simp
      refine hK.out _ _ ⟨Bk.on VB.out BT.out, Bk.on XB.out BT.out⟩ (fun hHeld => ?_)
      clear hK K
      try simp only [pt]
      generalize wp.alloc (.cells #[.int .i8 0, .string { data := #[] }, .slice none 0 0] 30) = wt at *
      generalize wp.heap.size = tb at *
      refine rd 7 fun K hK => ?_
      go_simp
      go_wp2_with (go_at_call 10; refine (HL1.out _ _).mono ?_; rintro e wq ⟨⟨l2, rfl, hle, hl2⟩, hbq⟩; have BQ := kp (BT.out.trans (hbq.mono BT.out.size)); have L2 := kp hl2; have L1q := kp (Bk.on L1t.out hbq); have HQ := kp hbq; clear hle hl2 hbq)
      refine hK.out _ _ ⟨Bk.on VB.out BQ.out, Bk.on XB.out BQ.out⟩ (fun hHeld => ?_)
      clear hK K
      try simp only [pt]
      have TQ := kp (Bk.on TT.out HQ.out)
      refine rd 9 fun K hK => ?_
      go_simp
      go_wp2_with (go_at_call 10; refine (HL2.out _ _).mono ?_; rintro e wr ⟨⟨l3, rfl, hle, hl3⟩, hbr⟩; have BR := kp (BQ.out.trans (hbr.mono BQ.out.size)); have L3 := kp hl3; have L1r := kp (Bk.on L1q.out hbr); have L2r := kp (Bk.on L2.out hbr); have HR := kp hbr; clear hle hl3 hbr)
      refine hK.out _ _ ⟨Bk.on VB.out BR.out, Bk.on XB.out BR.out⟩ (fun hHeld => ?_)
      clear hK K
      try simp only [pt]
      have TR := kp (Bk.on TQ.out HR.out)
      have hT := TR.out
      obtain ⟨t0, t1, t2, tf⟩ := Bk.c3 hT
      have n1 : l1 ≠ tb := fun e => by have h := L1r.out; rw [e, hT] at h; simp [flatV, sxV] at h
      have n2 : l2 ≠ tb := fun e => by have h := L2r.out; rw [e, hT] at h; simp [flatV, sxV] at h
      have n3 : l3 ≠ tb := fun e => by have h := L3.out; rw [e, hT] at h; simp [flatV, sxV] at h
      refine rd 11 fun K hK => ?_
      go_simp
      refine hK.out _ _ (⟨Bk.apart (Bk.apart (Bk.apart (Bk.on VB.out BR.out) (p := ⟨tb, 0, none⟩) (Nat.ne_of_lt (Nat.lt_of_lt_of_le (lt_of_block VB.out) hz)) _) (p := ⟨tb, 1, none⟩) (Nat.ne_of_lt (Nat.lt_of_lt_of_le (lt_of_block VB.out) hz)) _) (p := ⟨tb, 2, none⟩) (Nat.ne_of_lt (Nat.lt_of_lt_of_le (lt_of_block VB.out) hz)) _, Bk.apart (Bk.apart (Bk.apart (Bk.on XB.out BR.out) (p := ⟨tb, 0, none⟩) (Nat.ne_of_lt (Nat.lt_of_lt_of_le (lt_of_block XB.out) hz)) _) (p := ⟨tb, 1, none⟩) (Nat.ne_of_lt (Nat.lt_of_lt_of_le (lt_of_block XB.out) hz)) _) (p := ⟨tb, 2, none⟩) (Nat.ne_of_lt (Nat.lt_of_lt_of_le (lt_of_block XB.out) hz)) _⟩) (fun hHeld => ?_)
      clear hK K
      try simp only [pt]
      refine wpAnyH_done (by kernel_rfl) ?_ _
      clear hHeld
      go_wp2_with fail
      go_meet
      have BS := set3'_below BR.out (b := tb) hz (.int .i8 3) (.string { data := #[] }) (.slice (some ⟨l3, 0, none⟩) 3 3)
      exact ⟨tb, _, rfl, set3'_at hT _ _ _, hz, BS, let_at (set3'_apart L1r.out n1 _ _ _) (set3'_apart L2r.out n2 _ _ _) (set3'_apart L3.out n3 _ _ _) (XA.out.on BS)⟩
    ·skip
     have hz := B0.out.size
     have BT := kp (B0.out.alloc B0.out.size (.cells #[.int .i8 0, .string { data := #[] }, .slice none 0 0] 30))
     have TT := kp (Bk.new wd (.cells #[.int .i8 0, .string { data := #[] }, .slice none 0 0] 30))
     go_simp
     refine hK.out _ _ ⟨Bk.on VB.out BT.out, Bk.on XB.out BT.out⟩ (fun hHeld => ?_)
     clear hK K
     try simp only [pt]
     generalize wd.alloc (.cells #[.int .i8 0, .string { data := #[] }, .slice none 0 0] 30) = wt at *
     generalize wd.heap.size = tb at *
     refine rd 4 fun K hK => ?_
     go_simp
     go_wp2_with (go_at_call 11; refine (HPr.out _).mono ?_; rintro e wp ⟨⟨l1, rfl, hle, hl1⟩, hbp⟩; have BP := kp (BT.out.trans (hbp.mono BT.out.size)); have L1 := kp hl1; have HP := kp hbp; clear hle hl1 hbp)
     refine hK.out _ _ ⟨Bk.on VB.out BP.out, Bk.on XB.out BP.out⟩ (fun hHeld => ?_)
     clear hK K
     try simp only [pt]
     have TP := kp (Bk.on TT.out HP.out)
     refine rd 7 fun K hK => ?_
     go_simp
     go_wp2_with (go_at_call 10; refine (HL1.out _ _).mono ?_; rintro e wq ⟨⟨l2, rfl, hle, hl2⟩, hbq⟩; have BQ := kp (BP.out.trans (hbq.mono BP.out.size)); have L2 := kp hl2; have L1q := kp (Bk.on L1.out hbq); have HQ := kp hbq; clear hle hl2 hbq)
     refine hK.out _ _ ⟨Bk.on VB.out BQ.out, Bk.on XB.out BQ.out⟩ (fun hHeld => ?_)
     clear hK K
     try simp only [pt]
     have TQ := kp (Bk.on TP.out HQ.out)
     refine rd 9 fun K hK => ?_
     go_simp
     go_wp2_with (go_at_call 10; refine (HL2.out _ _).mono ?_; rintro e wr ⟨⟨l3, rfl, hle, hl3⟩, hbr⟩; have BR := kp (BQ.out.trans (hbr.mono BQ.out.size)); have L3 := kp hl3; have L1r := kp (Bk.on L1q.out hbr); have L2r := kp (Bk.on L2.out hbr); have HR := kp hbr; clear hle hl3 hbr)
     refine hK.out _ _ ⟨Bk.on VB.out BR.out, Bk.on XB.out BR.out⟩ (fun hHeld => ?_)
     clear hK K
     try simp only [pt]
     have TR := kp (Bk.on TQ.out HR.out)
     have hT := TR.out
     obtain ⟨t0, t1, t2, tf⟩ := Bk.c3 hT
     have n1 : l1 ≠ tb := fun e => by have h := L1r.out; rw [e, hT] at h; simp [flatV, sxV] at h
     have n2 : l2 ≠ tb := fun e => by have h := L2r.out; rw [e, hT] at h; simp [flatV, sxV] at h
     have n3 : l3 ≠ tb := fun e => by have h := L3.out; rw [e, hT] at h; simp [flatV, sxV] at h
     refine rd 11 fun K hK => ?_
     go_simp
     refine hK.out _ _ (⟨Bk.apart (Bk.apart (Bk.apart (Bk.on VB.out BR.out) (p := ⟨tb, 0, none⟩) (Nat.ne_of_lt (Nat.lt_of_lt_of_le (lt_of_block VB.out) hz)) _) (p := ⟨tb, 1, none⟩) (Nat.ne_of_lt (Nat.lt_of_lt_of_le (lt_of_block VB.out) hz)) _) (p := ⟨tb, 2, none⟩) (Nat.ne_of_lt (Nat.lt_of_lt_of_le (lt_of_block VB.out) hz)) _, Bk.apart (Bk.apart (Bk.apart (Bk.on XB.out BR.out) (p := ⟨tb, 0, none⟩) (Nat.ne_of_lt (Nat.lt_of_lt_of_le (lt_of_block XB.out) hz)) _) (p := ⟨tb, 1, none⟩) (Nat.ne_of_lt (Nat.lt_of_lt_of_le (lt_of_block XB.out) hz)) _) (p := ⟨tb, 2, none⟩) (Nat.ne_of_lt (Nat.lt_of_lt_of_le (lt_of_block XB.out) hz)) _⟩) (fun hHeld => ?_)
     clear hK K
     try simp only [pt]
     refine wpAnyH_done (by kernel_rfl) ?_ _
     clear hHeld
     go_wp2_with fail
     go_meet
     have BS := set3'_below BR.out (b := tb) hz (.int .i8 3) (.string { data := #[] }) (.slice (some ⟨l3, 0, none⟩) 3 3)
     exact ⟨tb, _, rfl, set3'_at hT _ _ _, hz, BS, let_at (set3'_apart L1r.out n1 _ _ _) (set3'_apart L2r.out n2 _ _ _) (set3'_apart L3.out n3 _ _ _) (XA.out.on BS)⟩
   case rest =>
    obtain ⟨tb, A6, rfl, hT, hle, hb6, hxl⟩ := hcut
    have B6 := kp (B5.out.trans (hb6.mono B5.out.size))
    have G6 := kp (Bk.on G5.out hb6)
    have X6 := kp (Bk.on X5.out hb6)
    have SG6 := kp (SG5.out.on hb6)
    have XA6 := kp (XA5.out.on hb6)
    have T6 := kp hT
    have XL6 := kp hxl
    clear hT hle hb6 hxl B5 G5 X5 SG5 XA5 V5 HPr HL1 HL2 B4 G4 X4 SG4 XA4
    generalize hwc : wc = w6 at *
    clear hwc
    have HMy := kp (rsxmay_any XL6.out)
    have HMl := kp (may_let (x := x) (by have := HFx.out; omega))
    have HFl := kp (show (letX x).full ≤ 3000000 by have h1 := full_let x; have h2 := HFx.out; omega)
    have HLp := kp (fun h1 h2 => lets_plain g x newT 200 h1 h2)
    have HS6 := kp (show g.sorts.length ≤ 1000000 ∧ g.funs.length ≤ 1000000 ∧ g.macros.length ≤ 1000000 from ⟨by have := HSm2.out.1; omega, by have := HSm2.out.2.1; omega, by have := HSm2.out.2.2; omega⟩)
    have HMx1 := kp (fun W (h : SigAt W A1 c1 A2 c2 A3 c3 g) At (ht : Lies 8 NodeR W At newT) (hx : XAt W A c x) => makes_new HS6.out (fun m hm => Nat.le_trans (HMf.out m hm) (by omega)) (by have := HFx.out; omega) h At ht hx)
    have HMx2 := kp (fun W (h : SigAt W A1 c1 A2 c2 A3 c3 g) At (ht : Lies 8 NodeR W At newT) (hx : XAt W A6 3 (letX x)) => makes_new HS6.out (fun m hm => Nat.le_trans (HMf.out m hm) (by omega)) HFl.out h At ht hx)
    have HN := kp tnew_any
    have el1 : (letX x).kind = 3 := rfl
    have el2 : (letX x).text = { data := #[] } := rfl
    have el3 : (letX x).l.length = 3 := rfl
    rw [el1, el2, el3] at HMy
    simp only [el1, el2, el3] at HMx2
    clear el1 el2 el3
    generalize letX x = lx at *
    obtain ⟨t0, t1, t2, tf⟩ := Bk.c3 T6.out
    go_wp2_with fail
    refine HMy.out.mono ?_
    rintro e w7 ⟨rfl, hb7⟩
    have B7 := kp (B6.out.trans (hb7.mono B6.out.size))
    have G7 := kp (Bk.on G6.out hb7)
    have X7 := kp (Bk.on X6.out hb7)
    have T7 := kp (Bk.on T6.out hb7)
    have SG7 := kp (SG6.out.on hb7)
    have XA7 := kp (XA6.out.on hb7)
    have XL7 := kp (XL6.out.on hb7)
    clear hb7 t0 t1 t2 tf B6 G6 X6 T6 SG6 XA6 XL6 HMy
    cases hmy : lx.may with
    | false =>
     go_wp2_with fail
     refine (HWk.out _).mono ?_
     rintro e w8 ⟨rfl, hb8⟩
     have B8 := kp (B7.out.trans (hb8.mono B7.out.size))
     clear hb8
     go_wp2_with fail
     go_ret
     exact ⟨rfl, B8.out⟩
    | true =>
     have HLq := kp (HLp.out (HMl.out hmy) hmy)
     rw [HLq.out] at HMx2
     clear hmy HLq HLp HMl
     generalize termO g newT x 200 = ans at *
     unfold MakesPost at HMx1 HMx2
     go_upto_region 7 with fail
     go_cut [7, 8, 9] from 35 to 42 (fun v7 v8 v9 V => TermCut w7 ans v7 v8 v9 V)
     case first =>
      have GB := kp G7.out
      have XB := kp X7.out
      have B0 := kp (Below.refl w7.heap.size w7).drew
      refine wp_region_held_drew (S := fun V => V.heap[w.heap.size]? = some (.cells #[.slice A1 g.sorts.length c1, .slice A2 g.funs.length c2, .slice A3 g.macros.length c3] 26 (0, 0)) ∧ V.heap[w.heap.size + 1]? = some (.cells #[.int .i8 x.kind, .string x.text, .slice A x.l.length c] 30 (0, 0))) (by kernel_rfl) (⟨GB.out, XB.out⟩) (fun hHeld => ?_)
      refine tk 0 (v := ?_) ?_ ?_
      rotate_left
      ·(intro w hSw; (obtain ⟨x0, x1, x2, xf⟩ := Bk.c3 hSw.1; go_simp; try with_reducible rfl))
      try simp only [pt]
      refine tk 2 (v := ?_) ?_ ?_
      rotate_left
      ·(intro w hSw; (obtain ⟨x0, x1, x2, xf⟩ := Bk.c3 hSw.2; go_simp; try with_reducible rfl))
      try simp only [pt]
      generalize hwd : World.drew _ = wd at *
      clear hwd
      have hz0 := B0.out.size
      refine wpAnyH_ready (rs := [1, 8]) (by kernel_rfl) (by simp) ?_
      refine AllReadyH.cons (o := Oper.mk _ _ _ _ _ _) rfl (fun K hK => ?_) (AllReadyH.cons (o := Oper.mk _ _ _ _ _ _) rfl (fun K hK => ?_) AllReadyH.nil)
      ·skip
       go_simp
       go_wp2_with (go_at_call 14; refine (HN.out _).mono ?_; rintro e w5 ⟨g5, rfl, hle5, ht5, hb5⟩; have B5 := kp (B0.out.trans (hb5.mono B0.out.size)); have T5 := kp (new_lies ht5); have H5 := kp hb5; clear hle5 ht5 hb5)
       refine hK.out _ _ ⟨Bk.on GB.out B5.out, Bk.on XB.out B5.out⟩ (fun hHeld => ?_)
       clear hK K
       try simp only [pt]
       refine wpAnyH_ready (rs := [3, 8]) (by kernel_rfl) (by simp) ?_
       refine AllReadyH.cons (o := Oper.mk _ _ _ _ _ _) rfl (fun K hK => ?_) (AllReadyH.cons (o := Oper.mk _ _ _ _ _ _) rfl (fun K hK => ?_) AllReadyH.nil)
       ·skip
        go_simp
        have HMx := kp (HMx1.out _ (SG7.out.on B5.out) _ T5.out (XA7.out.on B5.out))
        go_wp2_with (go_at_call 13; refine HMx.out.mono ?_; rintro e w6 ⟨A', c', rfl, hl6, hle6, hlm6, hlen6, hi6, hb6⟩; have B6 := kp (B5.out.trans (hb6.mono B5.out.size)); have Q6 := kp (And.intro hl6 (And.intro hle6 (And.intro hlm6 (And.intro hlen6 hi6)))); have H6 := kp hb6; clear hl6 hle6 hlm6 hlen6 hi6 hb6)
        refine hK.out _ _ ⟨Bk.on GB.out B6.out, Bk.on XB.out B6.out⟩ (fun hHeld => ?_)
        clear hK K
        try simp only [pt]
        refine tk 4 (v := ?_) ?_ ?_
        rotate_left
        ·(intro w hSw; go_simp; try with_reducible rfl)
        try simp only [pt]
        refine tk 5 (v := ?_) ?_ ?_
        rotate_left
        ·(intro w hSw; go_simp; try with_reducible rfl)
        try simp only [pt]
        refine tk 6 (v := ?_) ?_ ?_
        rotate_left
        ·(intro w hSw; go_simp; try with_reducible rfl)
        try simp only [pt]
        refine tk 7 (v := ?_) ?_ ?_
        rotate_left
        ·(intro w hSw; go_simp; try with_reducible rfl)
        try simp only [pt]
        have B7 := kp (B6.out.alloc B6.out.size (.cells #[.slice none 0 0] 38))
        have T7 := kp (Bk.new w6 (.cells #[.slice none 0 0] 38))
        have Q7 := kp (And.intro (Q6.out.1.on NodeR.lasts ((Below.refl w6.heap.size w6).alloc (Nat.le_refl _) (.cells #[.slice none 0 0] 38))) Q6.out.2)
        have hz6 := B6.out.size
        refine rd 8 fun K hK => ?_
        go_simp
        refine hK.out _ _ ⟨Bk.on GB.out B7.out, Bk.on XB.out B7.out⟩ (fun hHeld => ?_)
        clear hK K
        try simp only [pt]
        clear B6 Q6 H6
        generalize w6.alloc (.cells #[.slice none 0 0] 38) = w7 at *
        generalize w6.heap.size = tb at *
        have B6 := kp B7.out
        have Q6 := kp Q7.out
        have hTb := T7.out
        have FR := kp (far_table Q6.out.1 hTb)
        obtain ⟨t0, tf⟩ := Bk.c1 hTb
        refine rd 9 fun K hK => ?_
        go_simp
        refine hK.out _ _ (⟨Bk.apart (Bk.on GB.out B6.out) (p := ⟨tb, 0, none⟩) (Nat.ne_of_lt (Nat.lt_of_lt_of_le (lt_of_block GB.out) hz6)) _, Bk.apart (Bk.on XB.out B6.out) (p := ⟨tb, 0, none⟩) (Nat.ne_of_lt (Nat.lt_of_lt_of_le (lt_of_block XB.out) hz6)) _⟩) (fun hHeld => ?_)
        clear hK K
        try simp only [pt]
        refine tk 10 (v := ?_) ?_ ?_
        rotate_left
        ·(intro w hSw; go_simp; try with_reducible rfl)
        try simp only [pt]
        refine tk 11 (v := ?_) ?_ ?_
        rotate_left
        ·(intro w hSw; go_simp; try with_reducible rfl)
        try simp only [pt]
        refine wpAnyH_done (by kernel_rfl) ?_ _
        clear hHeld
        go_wp2_with fail
        go_meet
        exact ⟨tb, _, _, rfl, rfl, rfl, Bk.set_at hTb 0 _, hz6, B6.out.setCell (p := ⟨tb, 0, none⟩) hz6 _, lies_other Q6.out.1 FR.out, Q6.out.2.1, Q6.out.2.2.1, Q6.out.2.2.2.1, Q6.out.2.2.2.2⟩
       ·skip
        have B7 := kp (B5.out.alloc B5.out.size (.cells #[.slice none 0 0] 38))
        have T7 := kp (Bk.new w5 (.cells #[.slice none 0 0] 38))
        have N7 := kp (T5.out.on NodeR.lasts ((Below.refl w5.heap.size w5).alloc (Nat.le_refl _) (.cells #[.slice none 0 0] 38)))
        have hz6 := B5.out.size
        go_simp
        refine hK.out _ _ ⟨Bk.on GB.out B7.out, Bk.on XB.out B7.out⟩ (fun hHeld => ?_)
        clear hK K
        try simp only [pt]
        generalize w5.alloc (.cells #[.slice none 0 0] 38) = w7 at *
        generalize w5.heap.size = tb at *
        refine rd 3 fun K hK => ?_
        go_simp
        have HMx := kp (HMx1.out _ (SG7.out.on B7.out) _ N7.out (XA7.out.on B7.out))
        go_wp2_with (go_at_call 13; refine HMx.out.mono ?_; rintro e w6 ⟨A', c', rfl, hl6, hle6, hlm6, hlen6, hi6, hb6⟩; have B6 := kp (B7.out.trans (hb6.mono B7.out.size)); have Q6 := kp (And.intro hl6 (And.intro hle6 (And.intro hlm6 (And.intro hlen6 hi6)))); have H6 := kp hb6; clear hl6 hle6 hlm6 hlen6 hi6 hb6)
        refine hK.out _ _ ⟨Bk.on GB.out B6.out, Bk.on XB.out B6.out⟩ (fun hHeld => ?_)
        clear hK K
        try simp only [pt]
        refine tk 4 (v := ?_) ?_ ?_
        rotate_left
        ·(intro w hSw; go_simp; try with_reducible rfl)
        try simp only [pt]
        refine tk 5 (v := ?_) ?_ ?_
        rotate_left
        ·(intro w hSw; go_simp; try with_reducible rfl)
        try simp only [pt]
        refine tk 6 (v := ?_) ?_ ?_
        rotate_left
        ·(intro w hSw; go_simp; try with_reducible rfl)
        try simp only [pt]
        refine tk 7 (v := ?_) ?_ ?_
        rotate_left
        ·(intro w hSw; go_simp; try with_reducible rfl)
        try simp only [pt]
        have T8 := kp (Bk.on T7.out H6.out)
        have hTb := T8.out
        have FR := kp (far_table Q6.out.1 hTb)
        obtain ⟨t0, tf⟩ := Bk.c1 hTb
        refine rd 9 fun K hK => ?_
        go_simp
        refine hK.out _ _ (⟨Bk.apart (Bk.on GB.out B6.out) (p := ⟨tb, 0, none⟩) (Nat.ne_of_lt (Nat.lt_of_lt_of_le (lt_of_block GB.out) hz6)) _, Bk.apart (Bk.on XB.out B6.out) (p := ⟨tb, 0, none⟩) (Nat.ne_of_lt (Nat.lt_of_lt_of_le (lt_of_block XB.out) hz6)) _⟩) (fun hHeld => ?_)
        clear hK K
        try simp only [pt]
        refine tk 10 (v := ?_) ?_ ?_
        rotate_left
        ·(intro w hSw; go_simp; try with_reducible rfl)
        try simp only [pt]
        refine tk 11 (v := ?_) ?_ ?_
        rotate_left
        ·(intro w hSw; go_simp; try with_reducible rfl)
        try simp only [pt]
        refine wpAnyH_done (by kernel_rfl) ?_ _
        clear hHeld
        go_wp2_with fail
        go_meet
        exact ⟨tb, _, _, rfl, rfl, rfl, Bk.set_at hTb 0 _, hz6, B6.out.setCell (p := ⟨tb, 0, none⟩) hz6 _, lies_other Q6.out.1 FR.out, Q6.out.2.1, Q6.out.2.2.1, Q6.out.2.2.2.1, Q6.out.2.2.2.2⟩
      ·skip
       have B7 := kp (B0.out.alloc B0.out.size (.cells #[.slice none 0 0] 38))
       have T7 := kp (Bk.new wd (.cells #[.slice none 0 0] 38))
       go_simp
       refine hK.out _ _ ⟨Bk.on GB.out B7.out, Bk.on XB.out B7.out⟩ (fun hHeld => ?_)
       clear hK K
       try simp only [pt]
       generalize wd.alloc (.cells #[.slice none 0 0] 38) = w7 at *
       generalize wd.heap.size = tb at *
       refine rd 1 fun K hK => ?_
       go_simp
       go_wp2_with (go_at_call 14; refine (HN.out _).mono ?_; rintro e w5 ⟨g5, rfl, hle5, ht5, hb5⟩; have B5 := kp (B7.out.trans (hb5.mono B7.out.size)); have T5 := kp (new_lies ht5); have H5 := kp hb5; clear hle5 ht5 hb5)
       refine hK.out _ _ ⟨Bk.on GB.out B5.out, Bk.on XB.out B5.out⟩ (fun hHeld => ?_)
       clear hK K
       try simp only [pt]
       have T8 := kp (Bk.on T7.out H5.out)
       refine rd 3 fun K hK => ?_
       go_simp
       have HMx := kp (HMx1.out _ (SG7.out.on B5.out) _ T5.out (XA7.out.on B5.out))
       go_wp2_with (go_at_call 13; refine HMx.out.mono ?_; rintro e w6 ⟨A', c', rfl, hl6, hle6, hlm6, hlen6, hi6, hb6⟩; have B6 := kp (B5.out.trans (hb6.mono B5.out.size)); have Q6 := kp (And.intro hl6 (And.intro hle6 (And.intro hlm6 (And.intro hlen6 hi6)))); have H6 := kp hb6; clear hl6 hle6 hlm6 hlen6 hi6 hb6)
       refine hK.out _ _ ⟨Bk.on GB.out B6.out, Bk.on XB.out B6.out⟩ (fun hHeld => ?_)
       clear hK K
       try simp only [pt]
       refine tk 4 (v := ?_) ?_ ?_
       rotate_left
       ·(intro w hSw; go_simp; try with_reducible rfl)
       try simp only [pt]
       refine tk 5 (v := ?_) ?_ ?_
       rotate_left
       ·(intro w hSw; go_simp; try with_reducible rfl)
       try simp only [pt]
       refine tk 6 (v := ?_) ?_ ?_
       rotate_left
       ·(intro w hSw; go_simp; try with_reducible rfl)
       try simp only [pt]
       refine tk 7 (v := ?_) ?_ ?_
       rotate_left
       ·(intro w hSw; go_simp; try with_reducible rfl)
       try simp only [pt]
       have T9 := kp (Bk.on T8.out H6.out)
       have hTb := T9.out
       have FR := kp (far_table Q6.out.1 hTb)
       obtain ⟨t0, tf⟩ := Bk.c1 hTb
       refine rd 9 fun K hK => ?_
       go_simp
       refine hK.out _ _ (⟨Bk.apart (Bk.on GB.out B6.out) (p := ⟨tb, 0, none⟩) (Nat.ne_of_lt (Nat.lt_of_lt_of_le (lt_of_block GB.out) hz0)) _, Bk.apart (Bk.on XB.out B6.out) (p := ⟨tb, 0, none⟩) (Nat.ne_of_lt (Nat.lt_of_lt_of_le (lt_of_block XB.out) hz0)) _⟩) (fun hHeld => ?_)
       clear hK K
       try simp only [pt]
       refine tk 10 (v := ?_) ?_ ?_
       rotate_left
       ·(intro w hSw; go_simp; try with_reducible rfl)
       try simp only [pt]
       refine tk 11 (v := ?_) ?_ ?_
       rotate_left
       ·(intro w hSw; go_simp; try with_reducible rfl)
       try simp only [pt]
       refine wpAnyH_done (by kernel_rfl) ?_ _
       clear hHeld
       go_wp2_with fail
       go_meet
       exact ⟨tb, _, _, rfl, rfl, rfl, Bk.set_at hTb 0 _, hz0, B6.out.setCell (p := ⟨tb, 0, none⟩) hz0 _, lies_other Q6.out.1 FR.out, Q6.out.2.1, Q6.out.2.2.1, Q6.out.2.2.2.1, Q6.out.2.2.2.2⟩
     case rest =>
      obtain ⟨ta, Aa, ca, rfl, rfl, rfl, hTa, hle, hb8, hla, hl1, hl2, hl3, hl4⟩ := hcut
      have B8 := kp (B7.out.trans (hb8.mono B7.out.size))
      have G8 := kp (Bk.on G7.out hb8)
      have X8 := kp (Bk.on T7.out hb8)
      have SG8 := kp (SG7.out.on hb8)
      have XL8 := kp (XL7.out.on hb8)
      have TA8 := kp hTa
      have LA8 := kp hla
      clear hTa hle hb8 hla hl1 hl2 hl4 B7 G7 X7 T7 SG7 XA7 XL7
      generalize hwc : wc = w8 at *
      clear hwc
      go_upto_region 8 with fail
      go_cut [10, 11, 12] from 43 to 50 (fun v7 v8 v9 V => TermCut w8 ans v7 v8 v9 V)
      case first =>
       have GB := kp G8.out
       have XB := kp X8.out
       have B0 := kp (Below.refl w8.heap.size w8).drew
       refine wp_region_held_drew (S := fun V => V.heap[w.heap.size]? = some (.cells #[.slice A1 g.sorts.length c1, .slice A2 g.funs.length c2, .slice A3 g.macros.length c3] 26 (0, 0)) ∧ V.heap[tb]? = some (.cells #[.int .i8 3, .string { data := #[] }, .slice A6 3 3] 30 (0, 0))) (by kernel_rfl) (⟨GB.out, XB.out⟩) (fun hHeld => ?_)
       refine tk 0 (v := ?_) ?_ ?_
       rotate_left
       ·(intro w hSw; (obtain ⟨x0, x1, x2, xf⟩ := Bk.c3 hSw.1; go_simp; try with_reducible rfl))
       try simp only [pt]
       refine tk 2 (v := ?_) ?_ ?_
       rotate_left
       ·(intro w hSw; (obtain ⟨x0, x1, x2, xf⟩ := Bk.c3 hSw.2; go_simp; try with_reducible rfl))
       try simp only [pt]
       generalize hwd : World.drew _ = wd at *
       clear hwd
       have hz0 := B0.out.size
       refine wpAnyH_ready (rs := [1, 8]) (by kernel_rfl) (by simp) ?_
       refine AllReadyH.cons (o := Oper.mk _ _ _ _ _ _) rfl (fun K hK => ?_) (AllReadyH.cons (o := Oper.mk _ _ _ _ _ _) rfl (fun K hK => ?_) AllReadyH.nil)
       ·skip
        go_simp
        go_wp2_with (go_at_call 14; refine (HN.out _).mono ?_; rintro e w5 ⟨g5, rfl, hle5, ht5, hb5⟩; have B5 := kp (B0.out.trans (hb5.mono B0.out.size)); have T5 := kp (new_lies ht5); have H5 := kp hb5; clear hle5 ht5 hb5)
        refine hK.out _ _ ⟨Bk.on GB.out B5.out, Bk.on XB.out B5.out⟩ (fun hHeld => ?_)
        clear hK K
        try simp only [pt]
        refine wpAnyH_ready (rs := [3, 8]) (by kernel_rfl) (by simp) ?_
        refine AllReadyH.cons (o := Oper.mk _ _ _ _ _ _) rfl (fun K hK => ?_) (AllReadyH.cons (o := Oper.mk _ _ _ _ _ _) rfl (fun K hK => ?_) AllReadyH.nil)
        ·skip
         go_simp
         have HMx := kp (HMx2.out _ (SG8.out.on B5.out) _ T5.out (XL8.out.on B5.out))
         go_wp2_with (go_at_call 13; refine HMx.out.mono ?_; rintro e w6 ⟨A', c', rfl, hl6, hle6, hlm6, hlen6, hi6, hb6⟩; have B6 := kp (B5.out.trans (hb6.mono B5.out.size)); have Q6 := kp (And.intro hl6 (And.intro hle6 (And.intro hlm6 (And.intro hlen6 hi6)))); have H6 := kp hb6; clear hl6 hle6 hlm6 hlen6 hi6 hb6)
         refine hK.out _ _ ⟨Bk.on GB.out B6.out, Bk.on XB.out B6.out⟩ (fun hHeld => ?_)
         clear hK K
         try simp only [pt]
         refine tk 4 (v := ?_) ?_ ?_
         rotate_left
         ·(intro w hSw; go_simp; try with_reducible rfl)
         try simp only [pt]
         refine tk 5 (v := ?_) ?_ ?_
         rotate_left
         ·(intro w hSw; go_simp; try with_reducible rfl)
         try simp only [pt]
         refine tk 6 (v := ?_) ?_ ?_
         rotate_left
         ·(intro w hSw; go_simp; try with_reducible rfl)
         try simp only [pt]
         refine tk 7 (v := ?_) ?_ ?_
         rotate_left
         ·(intro w hSw; go_simp; try with_reducible rfl)
         try simp only [pt]
         have B7 := kp (B6.out.alloc B6.out.size (.cells #[.slice none 0 0] 38))
         have T7 := kp (Bk.new w6 (.cells #[.slice none 0 0] 38))
         have Q7 := kp (And.intro (Q6.out.1.on NodeR.lasts ((Below.refl w6.heap.size w6).alloc (Nat.le_refl _) (.cells #[.slice none 0 0] 38))) Q6.out.2)
         have hz6 := B6.out.size
         refine rd 8 fun K hK => ?_
         go_simp
         refine hK.out _ _ ⟨Bk.on GB.out B7.out, Bk.on XB.out B7.out⟩ (fun hHeld => ?_)
         clear hK K
         try simp only [pt]
         clear B6 Q6 H6
         generalize w6.alloc (.cells #[.slice none 0 0] 38) = w7 at *
         generalize w6.heap.size = tb at *
         have B6 := kp B7.out
         have Q6 := kp Q7.out
         have hTb := T7.out
         have FR := kp (far_table Q6.out.1 hTb)
         obtain ⟨t0, tf⟩ := Bk.c1 hTb
         refine rd 9 fun K hK => ?_
         go_simp
         refine hK.out _ _ (⟨Bk.apart (Bk.on GB.out B6.out) (p := ⟨tb, 0, none⟩) (Nat.ne_of_lt (Nat.lt_of_lt_of_le (lt_of_block GB.out) hz6)) _, Bk.apart (Bk.on XB.out B6.out) (p := ⟨tb, 0, none⟩) (Nat.ne_of_lt (Nat.lt_of_lt_of_le (lt_of_block XB.out) hz6)) _⟩) (fun hHeld => ?_)
         clear hK K
         try simp only [pt]
         refine tk 10 (v := ?_) ?_ ?_
         rotate_left
         ·(intro w hSw; go_simp; try with_reducible rfl)
         try simp only [pt]
         refine tk 11 (v := ?_) ?_ ?_
         rotate_left
         ·(intro w hSw; go_simp; try with_reducible rfl)
         try simp only [pt]
         refine wpAnyH_done (by kernel_rfl) ?_ _
         clear hHeld
         go_wp2_with fail
         go_meet
         exact ⟨tb, _, _, rfl, rfl, rfl, Bk.set_at hTb 0 _, hz6, B6.out.setCell (p := ⟨tb, 0, none⟩) hz6 _, lies_other Q6.out.1 FR.out, Q6.out.2.1, Q6.out.2.2.1, Q6.out.2.2.2.1, Q6.out.2.2.2.2⟩
        ·skip
         have B7 := kp (B5.out.alloc B5.out.size (.cells #[.slice none 0 0] 38))
         have T7 := kp (Bk.new w5 (.cells #[.slice none 0 0] 38))
         have N7 := kp (T5.out.on NodeR.lasts ((Below.refl w5.heap.size w5).alloc (Nat.le_refl _) (.cells #[.slice none 0 0] 38)))
         have hz6 := B5.out.size
         go_simp
         refine hK.out _ _ ⟨Bk.on GB.out B7.out, Bk.on XB.out B7.out⟩ (fun hHeld => ?_)
         clear hK K
         try simp only [pt]
         generalize w5.alloc (.cells #[.slice none 0 0] 38) = w7 at *
         generalize w5.heap.size = tb at *
         refine rd 3 fun K hK => ?_
         go_simp
         have HMx := kp (HMx2.out _ (SG8.out.on B7.out) _ N7.out (XL8.out.on B7.out))
         go_wp2_with (go_at_call 13; refine HMx.out.mono ?_; rintro e w6 ⟨A', c', rfl, hl6, hle6, hlm6, hlen6, hi6, hb6⟩; have B6 := kp (B7.out.trans (hb6.mono B7.out.size)); have Q6 := kp (And.intro hl6 (And.intro hle6 (And.intro hlm6 (And.intro hlen6 hi6)))); have H6 := kp hb6; clear hl6 hle6 hlm6 hlen6 hi6 hb6)
         refine hK.out _ _ ⟨Bk.on GB.out B6.out, Bk.on XB.out B6.out⟩ (fun hHeld => ?_)
         clear hK K
         try simp only [pt]
         refine tk 4 (v := ?_) ?_ ?_
         rotate_left
         ·(intro w hSw; go_simp; try with_reducible rfl)
         try simp only [pt]
         refine tk 5 (v := ?_) ?_ ?_
         rotate_left
         ·(intro w hSw; go_simp; try with_reducible rfl)
         try simp only [pt]
         refine tk 6 (v := ?_) ?_ ?_
         rotate_left
         ·(intro w hSw; go_simp; try with_reducible rfl)
         try simp only [pt]
         refine tk 7 (v := ?_) ?_ ?_
         rotate_left
         ·(intro w hSw; go_simp; try with_reducible rfl)
         try simp only [pt]
         have T8 := kp (Bk.on T7.out H6.out)
         have hTb := T8.out
         have FR := kp (far_table Q6.out.1 hTb)
         obtain ⟨t0, tf⟩ := Bk.c1 hTb
         refine rd 9 fun K hK => ?_
         go_simp
         refine hK.out _ _ (⟨Bk.apart (Bk.on GB.out B6.out) (p := ⟨tb, 0, none⟩) (Nat.ne_of_lt (Nat.lt_of_lt_of_le (lt_of_block GB.out) hz6)) _, Bk.apart (Bk.on XB.out B6.out) (p := ⟨tb, 0, none⟩) (Nat.ne_of_lt (Nat.lt_of_lt_of_le (lt_of_block XB.out) hz6)) _⟩) (fun hHeld => ?_)
         clear hK K
         try simp only [pt]
         refine tk 10 (v := ?_) ?_ ?_
         rotate_left
         ·(intro w hSw; go_simp; try with_reducible rfl)
         try simp only [pt]
         refine tk 11 (v := ?_) ?_ ?_
         rotate_left
         ·(intro w hSw; go_simp; try with_reducible rfl)
         try simp only [pt]
         refine wpAnyH_done (by kernel_rfl) ?_ _
         clear hHeld
         go_wp2_with fail
         go_meet
         exact ⟨tb, _, _, rfl, rfl, rfl, Bk.set_at hTb 0 _, hz6, B6.out.setCell (p := ⟨tb, 0, none⟩) hz6 _, lies_other Q6.out.1 FR.out, Q6.out.2.1, Q6.out.2.2.1, Q6.out.2.2.2.1, Q6.out.2.2.2.2⟩
       ·skip
        have B7 := kp (B0.out.alloc B0.out.size (.cells #[.slice none 0 0] 38))
        have T7 := kp (Bk.new wd (.cells #[.slice none 0 0] 38))
        go_simp
        refine hK.out _ _ ⟨Bk.on GB.out B7.out, Bk.on XB.out B7.out⟩ (fun hHeld => ?_)
        clear hK K
        try simp only [pt]
        generalize wd.alloc (.cells #[.slice none 0 0] 38) = w7 at *
        generalize wd.heap.size = tb at *
        refine rd 1 fun K hK => ?_
        go_simp
        go_wp2_with (go_at_call 14; refine (HN.out _).mono ?_; rintro e w5 ⟨g5, rfl, hle5, ht5, hb5⟩; have B5 := kp (B7.out.trans (hb5.mono B7.out.size)); have T5 := kp (new_lies ht5); have H5 := kp hb5; clear hle5 ht5 hb5)
        refine hK.out _ _ ⟨Bk.on GB.out B5.out, Bk.on XB.out B5.out⟩ (fun hHeld => ?_)
        clear hK K
        try simp only [pt]
        have T8 := kp (Bk.on T7.out H5.out)
        refine rd 3 fun K hK => ?_
        go_simp
        have HMx := kp (HMx2.out _ (SG8.out.on B5.out) _ T5.out (XL8.out.on B5.out))
        go_wp2_with (go_at_call 13; refine HMx.out.mono ?_; rintro e w6 ⟨A', c', rfl, hl6, hle6, hlm6, hlen6, hi6, hb6⟩; have B6 := kp (B5.out.trans (hb6.mono B5.out.size)); have Q6 := kp (And.intro hl6 (And.intro hle6 (And.intro hlm6 (And.intro hlen6 hi6)))); have H6 := kp hb6; clear hl6 hle6 hlm6 hlen6 hi6 hb6)
        refine hK.out _ _ ⟨Bk.on GB.out B6.out, Bk.on XB.out B6.out⟩ (fun hHeld => ?_)
        clear hK K
        try simp only [pt]
        refine tk 4 (v := ?_) ?_ ?_
        rotate_left
        ·(intro w hSw; go_simp; try with_reducible rfl)
        try simp only [pt]
        refine tk 5 (v := ?_) ?_ ?_
        rotate_left
        ·(intro w hSw; go_simp; try with_reducible rfl)
        try simp only [pt]
        refine tk 6 (v := ?_) ?_ ?_
        rotate_left
        ·(intro w hSw; go_simp; try with_reducible rfl)
        try simp only [pt]
        refine tk 7 (v := ?_) ?_ ?_
        rotate_left
        ·(intro w hSw; go_simp; try with_reducible rfl)
        try simp only [pt]
        have T9 := kp (Bk.on T8.out H6.out)
        have hTb := T9.out
        have FR := kp (far_table Q6.out.1 hTb)
        obtain ⟨t0, tf⟩ := Bk.c1 hTb
        refine rd 9 fun K hK => ?_
        go_simp
        refine hK.out _ _ (⟨Bk.apart (Bk.on GB.out B6.out) (p := ⟨tb, 0, none⟩) (Nat.ne_of_lt (Nat.lt_of_lt_of_le (lt_of_block GB.out) hz0)) _, Bk.apart (Bk.on XB.out B6.out) (p := ⟨tb, 0, none⟩) (Nat.ne_of_lt (Nat.lt_of_lt_of_le (lt_of_block XB.out) hz0)) _⟩) (fun hHeld => ?_)
        clear hK K
        try simp only [pt]
        refine tk 10 (v := ?_) ?_ ?_
        rotate_left
        ·(intro w hSw; go_simp; try with_reducible rfl)
        try simp only [pt]
        refine tk 11 (v := ?_) ?_ ?_
        rotate_left
        ·(intro w hSw; go_simp; try with_reducible rfl)
        try simp only [pt]
        refine wpAnyH_done (by kernel_rfl) ?_ _
        clear hHeld
        go_wp2_with fail
        go_meet
        exact ⟨tb, _, _, rfl, rfl, rfl, Bk.set_at hTb 0 _, hz0, B6.out.setCell (p := ⟨tb, 0, none⟩) hz0 _, lies_other Q6.out.1 FR.out, Q6.out.2.1, Q6.out.2.2.1, Q6.out.2.2.2.1, Q6.out.2.2.2.2⟩
      case rest =>
       obtain ⟨tu, Au, cu, rfl, rfl, rfl, hTu, hle, hb9, hlu, hm1, hm2, hm3, hm4⟩ := hcut
       have B9 := kp (B8.out.trans (hb9.mono B8.out.size))
       have TA9 := kp (Bk.on TA8.out hb9)
       have LA9 := kp (LA8.out.on NodeR.lasts hb9)
       have TU9 := kp hTu
       have HSa := kp (tsame_any ca cu LA9.out hlu (by omega))
       clear hTu hle hb9 hlu hm1 hm2 hm4 B8 G8 X8 SG8 XL8 TA8 LA8
       generalize hwc : wc = w9 at *
       clear hwc
       obtain ⟨a0, af⟩ := Bk.c1 TA9.out
       obtain ⟨u0, uf⟩ := Bk.c1 TU9.out
       have q1 : (ans.2.2 == ans.2.2) = true := by simp
       have q2 : (ans.2.1 == ans.2.1) = true := by simp
       rw [decide_eq_true (rfl : ans.1 = ans.1)] at HSa
       go_wp2_with fail
       refine HSa.out.mono ?_
       rintro e w10 ⟨rfl, hb10⟩
       have B10 := kp (B9.out.trans (hb10.mono B9.out.size))
       clear hb10
       go_wp2_with fail
       refine (HWk.out _).mono ?_
       rintro e w11 ⟨rfl, hb11⟩
       have B11 := kp (B10.out.trans (hb11.mono B10.out.size))
       clear hb11
       go_wp2_with fail
       go_ret
       exact ⟨rfl, B11.out⟩
end Go.Proofs.YtpmdcckapddchaaGreat.El
/- ElabLets: for any input the law answers true, and each argument reads as before: the tied card, of bulk at most 1048576. -/
namespace Go.Proofs.YtpmdcckapddchaaGreat.elabLets
open Go.RowKit Go.ChangeShapes Go.WideShapes Go.ChangeAt Go.WideMaps Go.WideElems
open Go.ChangeMaps (setBlock shut_map_nil open_string shut_string keptBut_setBlock frozen?_setBlock heap_setBlock_same)

theorem cellsInt : Tryz.prog.cellsOf 3 = 1 := by kernel_rfl

set_option maxRecDepth 100000 in
theorem contract (H : Type) (enc : TypeId × Value → H) (W : World) (base : Nat) (args : Array Value) (ds gs : List (DataW H)) (before : List MemPlace)
  (hval : ∀ (j : Nat) t v, Tryz.f3.params[j]? = some t → args[j]? = some v → Value.okWide Tryz.prog W .any base t v)
  (hW : DataW.Whole enc Tryz.prog Tryz.f3.params.toList Rows.elabLetsSpec.vars false W args.toList ds gs before) (hR : (DataW.weightsEach Tryz.prog (Tryz.f3.params.toList ++ Rows.elabLetsSpec.plain.varTypes Tryz.prog) (ds ++ gs)).all (· ≤ reachBytes) = true) (hk : Rows.uptoSmall H (ds ++ gs) = true) :
  Calls Tryz.prog 3 args W fun e W' => ∃ v, e = .returned v ∧ Rows.elabLetsSpec.post enc Tryz.prog Tryz.f3 false true false false W args v W' := by
 have hW' := hW
 obtain ⟨p, q, hA0, hV, rfl, hfz, hnd⟩ := hW
 have hA : DataW.TrodAll enc Tryz.prog W 0 (fun _ => true) true Tryz.f3.params.toList args.toList ds p := hA0
 have hfit : ∀ (j : Nat) t d, Tryz.f3.params.toList[j]? = some t → ds[j]? = some d → Fits Tryz.prog t d := fun j t d h1 h2 => fits_each (fun m hm => of_decide_eq_true (List.all_eq_true.1 hR m hm)) j t d (by rw [List.getElem?_append_left (List.getElem?_eq_some_iff.1 h1).1]; exact h1) (by rw [List.getElem?_append_left (List.getElem?_eq_some_iff.1 h2).1]; exact h2)
 rw [Tryz.params3] at hfit
 rw [Tryz.params3] at hA hval
 obtain ⟨v0, vs0, d0, ds0, p0, q0, hargs, rfl, rfl, h0, r0⟩ := trodAll_cons hA
 obtain ⟨v1, vs1, d1, ds1, p1, q1, rfl, rfl, rfl, h1, r1⟩ := trodAll_cons r0
 obtain ⟨rfl, rfl, rfl⟩ := trodAll_nil r1
 obtain rfl : args = #[v0, v1] := by cases args; simp_all
 obtain ⟨g0, A0_0, c0_0, A0_1, c0_1, A0_2, c0_2, rfl, hg0⟩ := Dt.open_sig (hval 0 26 v0 rfl rfl) h0 (hfit 0 26 d0 rfl rfl)
 obtain ⟨x1, A1, c1, rfl, hx1⟩ := Dt.open_sx (hval 1 30 v1 rfl rfl) h1 (hfit 1 30 d1 rfl rfl)
 have hbk := Dt.bulk_le hk
 rw [Dt.bulk_cons, Dt.bulk_cons, Dt.bulk_nil] at hbk
 have hb0 := Dt.bulk_sig h0 ⟨_, _, _, _, _, _, rfl, hg0⟩
 have hb1 := Dt.bulk_sexp h1 hx1
 refine (El.lets_all (w := W) hg0 hx1 (by omega) (by omega)).mono fun e W' ⟨he, hb⟩ => ⟨_, he, ?_⟩
 exact law_post laidOut (by kernel_rfl) rfl Tryz.underlying4 rfl rfl hW' hb

noncomputable def laidWorld (os : Os) : World := World.holding Tryz.prog os ⟨#[], #[], []⟩
theorem laid_met (os : Os) : laidMetH Tryz.prog Rows.elabLetsUptoRow.laid ((laidWorld os).forCall (fun _ _ => 0) ⟨#[], #[.agg #[.slice none 0 0, .slice none 0 0, .slice none 0 0], .agg #[.int .i8 0, .string ⟨#[]⟩, .slice none 0 0]], []⟩).memory :=
 laidMetH_of_parts3 (fuel := 8) (laidMet_of_run' 8 (by kernel_rfl) (by kernel_rfl)) (by kernel_rfl) (by kernel_rfl)
theorem reads (os : Os) {H : Type} (enc : TypeId × Value → H) : ∃ x, DataW.whole enc Tryz.prog ((laidWorld os).forCall (fun _ _ => 0) ⟨#[], #[.agg #[.slice none 0 0, .slice none 0 0, .slice none 0 0], .agg #[.int .i8 0, .string ⟨#[]⟩, .slice none 0 0]], []⟩).memory Tryz.f3.params.toList Rows.elabLetsSpec.vars false #[Value.agg #[.slice none 0 0, .slice none 0 0, .slice none 0 0], .agg #[.int .i8 0, .string ⟨#[]⟩, .slice none 0 0]].toList 8 = some ([.agg [.nil, .nil, .nil], .agg [.lit (.int .i8 0), .lit (.string []), .nil]], [], x) :=
 ⟨[], by kernel_rfl⟩

set_option maxRecDepth 100000 in
theorem lifted (os : Os) (started : os.Started) (H : Type) (enc : TypeId × Value → H) (F : Stop.Interp) :
  ReturnsInHanded {} Tryz.checked os 3 .any ((Rows.OpenSpec.upto Rows.elabLetsSpec).preRow enc Tryz.prog Tryz.f3 Rows.elabLetsUptoRow.domain false Rows.elabLetsUptoRow.laid) (((Rows.OpenSpec.upto Rows.elabLetsSpec).at F).post enc Tryz.prog Tryz.f3 false true false false) := by
 obtain ⟨places, hx⟩ := reads os enc
 refine returnsInHanded_of_row (C := Tryz.checked) (s := Rows.OpenSpec.upto Rows.elabLetsSpec) own started (by kernel_rfl) Tryz.func3
  (witness_row_at (enc := enc) (C := Tryz.checked) false (laidWorld os) #[.agg #[.slice none 0 0, .slice none 0 0, .slice none 0 0], .agg #[.int .i8 0, .string ⟨#[]⟩, .slice none 0 0]] rfl (by kernel_rfl) (by kernel_rfl) (by kernel_rfl)
   (OpenSpec.preRow_of_cond 8 hx (by kernel_rfl) (fun k hk => by cases hk; kernel_rfl) (by kernel_rfl) (laid_met os))) ?_
 intro W base args ds gs before hval hW _ hcond hR hL _ _
 exact contract H enc W base args ds gs before hval hW hR (hcond _ rfl)

theorem said : Rows.ElabLetsUptoSaid :=
 OpenClaim.holds_of_cond 3 Tryz.f3 rfl rfl rfl rfl rfl rfl rfl ⟨rfl, rfl, rfl, rfl, rfl⟩ rfl rfl rfl rfl rfl (by kernel_rfl) Tryz.func3 (by kernel_rfl)
  (of_decide_eq_true (by kernel_rfl)) (by unfold Func.isWrapper; first | (rw [if_pos (by decide +kernel)]; kernel_rfl) | (rw [if_neg (by decide +kernel)]; exact ⟨rfl, rfl⟩))
  (fun os started H enc _ F => by rw [OpenClaim.pre_eq_preRow]; exact lifted os started H enc F)
end Go.Proofs.YtpmdcckapddchaaGreat.elabLets
