import Derived.Test.YtpmdcckapddchaaGreatShort
import Derived.Test.YtpmdcckapddchaaGreatMo
import Derived.Deep.RegionHeld3
import Derived.Test.YtpmdcckapddchaaGreatMh
/- merged by wip/merge.py from: ElCore ElAlike ElEqual -/
/- The core's kinds: and, or, xor, >=, >, =>. -/
namespace Go.Proofs.YtpmdcckapddchaaGreat.El
open Go.RowKit Go.Maps Go.Proofs.YtpmdcckapddchaaGreat.Dt Go.Proofs.YtpmdcckapddchaaGreat.Sg

set_option maxHeartbeats 1600000 in
theorem and_any {F : Fix} (hF : FixOk F) {w : World} {known : Int} {st : St} {At : Option Addr} {ct : Nat} (hm : Mk F w known st At ct) {L : Option Addr} {l : List V} (cl : Nat) (hcl : l.length ≤ cl) (hl : ValsS F w L l) (h1 : l ≠ []) (hll : l.length ≤ 8000000000000) :
  Calls Tryz.prog 122 #[.pointer (some ⟨F.mb, 0, none⟩), .slice L l.length cl] w (MkPost F known w st.t At (headM F.c 2 l st).1 (headM F.c 2 l st).2) := by
 have B1 := kp ((Below.refl w.heap.size w).alloc (Nat.le_refl _) (.cells #[.int .i64 0, .int .i64 0] 69))
 have RB := kp (Bk.new w (.cells #[.int .i64 0, .int .i64 0] 69))
 have hlt := hm.lt
 have HFr := kp (hm.new_far (Nat.le_refl w.heap.size))
 have HC := kp (left_any hF (hm.keep B1.out) 2 (I8.of (by decide) (by decide)) cl hcl (hl.on (Keeps.of_below B1.out _)) h1 hll)
 generalize headM F.c 2 l st = res at *
 go_enter Tryz.func122, Tryz.ntmps122
 go_upto_region 1 with fail
 generalize w.alloc (.cells #[.int .i64 0, .int .i64 0] 69) = w1 at *
 go_wp2_with fail
 refine HC.out.mono ?_
 rintro e w7 ⟨rfl, hv, hk7, A7, c7, hm7, ht7⟩
 have R7 := kp ((hk7.block w.heap.size (lt_of_block RB.out) (by unfold onMb; omega)).trans RB.out)
 have M7 := kp hm7
 have K7 := kp ((Keeps.of_below B1.out (onMb F)).trans_same hk7)
 have HT7 := kp (ht7.mono B1.out.size)
 have HF7 := kp (Far.of_tn HFr.out ht7 (lt_of_block RB.out))
 unfold valV
 clear hk7 hm7 ht7
 obtain ⟨r0, r1, rf⟩ := Bk.c2 R7.out
 go_wp2_with fail
 refine mk_end (v := res.1) hF Tryz.results122 M7.out hlt K7.out HT7.out (Nat.le_refl _) HF7.out R7.out ?_ ?_ hv <;> rfl
set_option maxHeartbeats 1600000 in
theorem or_any {F : Fix} (hF : FixOk F) {w : World} {known : Int} {st : St} {At : Option Addr} {ct : Nat} (hm : Mk F w known st At ct) {L : Option Addr} {l : List V} (cl : Nat) (hcl : l.length ≤ cl) (hl : ValsS F w L l) (h1 : l ≠ []) (hll : l.length ≤ 8000000000000) :
  Calls Tryz.prog 123 #[.pointer (some ⟨F.mb, 0, none⟩), .slice L l.length cl] w (MkPost F known w st.t At (headM F.c 3 l st).1 (headM F.c 3 l st).2) := by
 have B1 := kp ((Below.refl w.heap.size w).alloc (Nat.le_refl _) (.cells #[.int .i64 0, .int .i64 0] 69))
 have RB := kp (Bk.new w (.cells #[.int .i64 0, .int .i64 0] 69))
 have hlt := hm.lt
 have HFr := kp (hm.new_far (Nat.le_refl w.heap.size))
 have HC := kp (left_any hF (hm.keep B1.out) 3 (I8.of (by decide) (by decide)) cl hcl (hl.on (Keeps.of_below B1.out _)) h1 hll)
 generalize headM F.c 3 l st = res at *
 go_enter Tryz.func123, Tryz.ntmps123
 go_upto_region 1 with fail
 generalize w.alloc (.cells #[.int .i64 0, .int .i64 0] 69) = w1 at *
 go_wp2_with fail
 refine HC.out.mono ?_
 rintro e w7 ⟨rfl, hv, hk7, A7, c7, hm7, ht7⟩
 have R7 := kp ((hk7.block w.heap.size (lt_of_block RB.out) (by unfold onMb; omega)).trans RB.out)
 have M7 := kp hm7
 have K7 := kp ((Keeps.of_below B1.out (onMb F)).trans_same hk7)
 have HT7 := kp (ht7.mono B1.out.size)
 have HF7 := kp (Far.of_tn HFr.out ht7 (lt_of_block RB.out))
 unfold valV
 clear hk7 hm7 ht7
 obtain ⟨r0, r1, rf⟩ := Bk.c2 R7.out
 go_wp2_with fail
 refine mk_end (v := res.1) hF Tryz.results123 M7.out hlt K7.out HT7.out (Nat.le_refl _) HF7.out R7.out ?_ ?_ hv <;> rfl
set_option maxHeartbeats 1600000 in
theorem xor_any {F : Fix} (hF : FixOk F) {w : World} {known : Int} {st : St} {At : Option Addr} {ct : Nat} (hm : Mk F w known st At ct) {L : Option Addr} {l : List V} (cl : Nat) (hcl : l.length ≤ cl) (hl : ValsS F w L l) (h1 : l ≠ []) (hll : l.length ≤ 8000000000000) :
  Calls Tryz.prog 124 #[.pointer (some ⟨F.mb, 0, none⟩), .slice L l.length cl] w (MkPost F known w st.t At (headM F.c 4 l st).1 (headM F.c 4 l st).2) := by
 have B1 := kp ((Below.refl w.heap.size w).alloc (Nat.le_refl _) (.cells #[.int .i64 0, .int .i64 0] 69))
 have RB := kp (Bk.new w (.cells #[.int .i64 0, .int .i64 0] 69))
 have hlt := hm.lt
 have HFr := kp (hm.new_far (Nat.le_refl w.heap.size))
 have HC := kp (left_any hF (hm.keep B1.out) 4 (I8.of (by decide) (by decide)) cl hcl (hl.on (Keeps.of_below B1.out _)) h1 hll)
 generalize headM F.c 4 l st = res at *
 go_enter Tryz.func124, Tryz.ntmps124
 go_upto_region 1 with fail
 generalize w.alloc (.cells #[.int .i64 0, .int .i64 0] 69) = w1 at *
 go_wp2_with fail
 refine HC.out.mono ?_
 rintro e w7 ⟨rfl, hv, hk7, A7, c7, hm7, ht7⟩
 have R7 := kp ((hk7.block w.heap.size (lt_of_block RB.out) (by unfold onMb; omega)).trans RB.out)
 have M7 := kp hm7
 have K7 := kp ((Keeps.of_below B1.out (onMb F)).trans_same hk7)
 have HT7 := kp (ht7.mono B1.out.size)
 have HF7 := kp (Far.of_tn HFr.out ht7 (lt_of_block RB.out))
 unfold valV
 clear hk7 hm7 ht7
 obtain ⟨r0, r1, rf⟩ := Bk.c2 R7.out
 go_wp2_with fail
 refine mk_end (v := res.1) hF Tryz.results124 M7.out hlt K7.out HT7.out (Nat.le_refl _) HF7.out R7.out ?_ ?_ hv <;> rfl
set_option maxHeartbeats 1600000 in
theorem ge_any {F : Fix} (hF : FixOk F) {w : World} {known : Int} {st : St} {At : Option Addr} {ct : Nat} (hm : Mk F w known st At ct) {L : Option Addr} {x y : V} (cl : Nat) (hl : ValsS F w L [x, y]) :
  Calls Tryz.prog 131 #[.pointer (some ⟨F.mb, 0, none⟩), .slice L 2 cl] w (MkPost F known w st.t At (opM F.c 8 0 [y, x] st).1 (opM F.c 8 0 [y, x] st).2) := by
 have B1 := kp ((Below.refl w.heap.size w).alloc (Nat.le_refl _) (.cells #[.int .i64 0, .int .i64 0] 69))
 have RB := kp (Bk.new w (.cells #[.int .i64 0, .int .i64 0] 69))
 have hlt := hm.lt
 have HFr := kp (hm.new_far (Nat.le_refl w.heap.size))
 obtain ⟨b, o, rfl, _, _, _, hx⟩ := val_get hl.now (k := 0) (v := x) rfl
 have hy : VI y := lies_vi hl.now y (by simp)
 have HX := kp hx
 have HY := kp hy
 have HLv := kp (fun W (hW : Keeps (onMb F) w W) => show (W.cell? ⟨b, o, none⟩ = some (.int .i64 x.1) ∧ W.cell? ⟨b, o + 1, none⟩ = some (.int .i64 x.2)) ∧ W.cell? ⟨b, o + 2, none⟩ = some (.int .i64 y.1) ∧ W.cell? ⟨b, o + 3, none⟩ = some (.int .i64 y.2) by
  obtain ⟨b1, o1, hA, _, e0, e1, _⟩ := val_get (hl.on hW).now (k := 0) (v := x) rfl
  obtain ⟨b2, o2, hA2, _, e2, e3, _⟩ := val_get (hl.on hW).now (k := 1) (v := y) rfl
  simp only [Option.some.injEq, Addr.mk.injEq, and_true] at hA hA2
  obtain ⟨rfl, rfl⟩ := hA
  obtain ⟨rfl, rfl⟩ := hA2
  rw [Nat.zero_mul, Nat.add_zero] at e0 e1
  exact ⟨⟨e0, e1⟩, e2, e3⟩)
 clear hx hy
 have HC := kp (fun (W : World) (b' : Nat) (hW : Below w.heap.size w W) (hb : W.heap[b']? = some (.cells #[.int .i64 y.1, .int .i64 y.2, .int .i64 x.1, .int .i64 x.2] 69 (0, 0))) => op_any hF (hm.keep hW) 8 0 (I8.of (by decide) (by decide)) v0_VI.1 2 (lies_two hb HY.out HX.out) (Nat.le_succ 2))
 generalize opM F.c 8 0 [y, x] st = res at *
 go_enter Tryz.func131, Tryz.ntmps131
 go_upto_region 1 with fail
 generalize w.alloc (.cells #[.int .i64 0, .int .i64 0] 69) = w1 at *
 have B0 := kp (Below.refl w1.heap.size w1).drew
 have K0 := kp (Keeps.of_below (B1.out.trans (B0.out.mono B1.out.size)) (onMb F))
 have KB := kp (K0.out.alloc (.cells #[.int .i64 y.1, .int .i64 y.2, .int .i64 x.1, .int .i64 x.2] 69))
 have BB := kp (B0.out.alloc B0.out.size (.cells #[.int .i64 y.1, .int .i64 y.2, .int .i64 x.1, .int .i64 x.2] 69))
 have NB := kp (show (w1.drew.alloc (.cells #[.int .i64 y.1, .int .i64 y.2, .int .i64 x.1, .int .i64 x.2] 69)).heap[w1.heap.size]? = some (.cells #[.int .i64 y.1, .int .i64 y.2, .int .i64 x.1, .int .i64 x.2] 69 (0, 0)) from Bk.new w1.drew _)
 have HCall := kp (HC.out _ _ (B1.out.trans (BB.out.mono B1.out.size)) NB.out)
 refine wp_region_held_drew (S := fun W => Keeps (onMb F) w W) (by kernel_rfl) (K0.out) (fun hHeld => ?_)
 refine tk 0 (v := ?_) ?_ ?_
 rotate_left
 ·(intro w hSw; go_simp; try with_reducible rfl)
 try simp only [pt]
 refine tk 1 (v := ?_) ?_ ?_
 rotate_left
 ·(intro w hSw; go_simp; try with_reducible rfl)
 try simp only [pt]
 refine tk 2 (v := ?_) ?_ ?_
 rotate_left
 ·(intro w hSw; go_simp; try with_reducible rfl)
 try simp only [pt]
 refine tk 3 (v := ?_) ?_ ?_
 rotate_left
 ·(intro w hSw; (obtain ⟨⟨e0, e1⟩, e2, e3⟩ := HLv.out _ hSw; go_simp; try with_reducible rfl))
 try simp only [pt]
 refine tk 4 (v := ?_) ?_ ?_
 rotate_left
 ·(intro w hSw; go_simp; try with_reducible rfl)
 try simp only [pt]
 refine tk 5 (v := ?_) ?_ ?_
 rotate_left
 ·(intro w hSw; go_simp; try with_reducible rfl)
 try simp only [pt]
 refine tk 6 (v := ?_) ?_ ?_
 rotate_left
 ·(intro w hSw; (obtain ⟨⟨e0, e1⟩, e2, e3⟩ := HLv.out _ hSw; go_simp; try with_reducible rfl))
 try simp only [pt]
 refine rd 7 fun K hK => ?_
 go_simp
 refine hK.out _ _ (KB.out) (fun hHeld => ?_)
 clear hK K
 try simp only [pt]
 have hne0 : w.heap.size ≠ F.mb := by omega
 have RBB := kp (Bk.on RB.out BB.out)
 refine rd 8 fun K hK => ?_
 go_simp
 refine HCall.out.mono ?_
 rintro e w7 ⟨rfl, hv, hk7, A7, c7, hm7, ht7⟩
 have R7 := kp ((hk7.block w.heap.size (lt_of_block RBB.out) hne0).trans RBB.out)
 have M7 := kp hm7
 have K7 := kp (KB.out.trans_same hk7)
 have HT7 := kp (ht7.mono KB.out.size)
 have HF7 := kp (Far.of_tn HFr.out ht7 (lt_of_block RBB.out))
 unfold valV
 clear hk7 hm7 ht7
 refine hK.out _ _ K7.out (fun hHeld => ?_)
 clear hK K
 try simp only [pt]
 obtain ⟨r0, r1, rf⟩ := Bk.c2 R7.out
 have K8 := kp ((K7.out.setCell (p := ⟨w.heap.size, 0, none⟩) (.inr (Nat.le_refl _)) (.int .i64 res.1.1)).setCell (p := ⟨w.heap.size, 1, none⟩) (.inr (Nat.le_refl _)) (.int .i64 res.1.2))
 refine rd 9 fun K hK => ?_
 go_simp
 refine hK.out _ _ (K8.out) (fun hHeld => ?_)
 clear hK K
 try simp only [pt]
 refine wpAnyH_done (by kernel_rfl) ?_ _
 go_wp2_with fail
 refine mk_end (v := res.1) hF Tryz.results131 M7.out hlt K7.out HT7.out (Nat.le_refl _) HF7.out R7.out ?_ ?_ hv <;> rfl
set_option maxHeartbeats 1600000 in
theorem gt_any {F : Fix} (hF : FixOk F) {w : World} {known : Int} {st : St} {At : Option Addr} {ct : Nat} (hm : Mk F w known st At ct) {L : Option Addr} {x y : V} (cl : Nat) (hl : ValsS F w L [x, y]) :
  Calls Tryz.prog 132 #[.pointer (some ⟨F.mb, 0, none⟩), .slice L 2 cl] w (MkPost F known w st.t At (opM F.c 9 0 [y, x] st).1 (opM F.c 9 0 [y, x] st).2) := by
 have B1 := kp ((Below.refl w.heap.size w).alloc (Nat.le_refl _) (.cells #[.int .i64 0, .int .i64 0] 69))
 have RB := kp (Bk.new w (.cells #[.int .i64 0, .int .i64 0] 69))
 have hlt := hm.lt
 have HFr := kp (hm.new_far (Nat.le_refl w.heap.size))
 obtain ⟨b, o, rfl, _, _, _, hx⟩ := val_get hl.now (k := 0) (v := x) rfl
 have hy : VI y := lies_vi hl.now y (by simp)
 have HX := kp hx
 have HY := kp hy
 have HLv := kp (fun W (hW : Keeps (onMb F) w W) => show (W.cell? ⟨b, o, none⟩ = some (.int .i64 x.1) ∧ W.cell? ⟨b, o + 1, none⟩ = some (.int .i64 x.2)) ∧ W.cell? ⟨b, o + 2, none⟩ = some (.int .i64 y.1) ∧ W.cell? ⟨b, o + 3, none⟩ = some (.int .i64 y.2) by
  obtain ⟨b1, o1, hA, _, e0, e1, _⟩ := val_get (hl.on hW).now (k := 0) (v := x) rfl
  obtain ⟨b2, o2, hA2, _, e2, e3, _⟩ := val_get (hl.on hW).now (k := 1) (v := y) rfl
  simp only [Option.some.injEq, Addr.mk.injEq, and_true] at hA hA2
  obtain ⟨rfl, rfl⟩ := hA
  obtain ⟨rfl, rfl⟩ := hA2
  rw [Nat.zero_mul, Nat.add_zero] at e0 e1
  exact ⟨⟨e0, e1⟩, e2, e3⟩)
 clear hx hy
 have HC := kp (fun (W : World) (b' : Nat) (hW : Below w.heap.size w W) (hb : W.heap[b']? = some (.cells #[.int .i64 y.1, .int .i64 y.2, .int .i64 x.1, .int .i64 x.2] 69 (0, 0))) => op_any hF (hm.keep hW) 9 0 (I8.of (by decide) (by decide)) v0_VI.1 2 (lies_two hb HY.out HX.out) (Nat.le_succ 2))
 generalize opM F.c 9 0 [y, x] st = res at *
 go_enter Tryz.func132, Tryz.ntmps132
 go_upto_region 1 with fail
 generalize w.alloc (.cells #[.int .i64 0, .int .i64 0] 69) = w1 at *
 have B0 := kp (Below.refl w1.heap.size w1).drew
 have K0 := kp (Keeps.of_below (B1.out.trans (B0.out.mono B1.out.size)) (onMb F))
 have KB := kp (K0.out.alloc (.cells #[.int .i64 y.1, .int .i64 y.2, .int .i64 x.1, .int .i64 x.2] 69))
 have BB := kp (B0.out.alloc B0.out.size (.cells #[.int .i64 y.1, .int .i64 y.2, .int .i64 x.1, .int .i64 x.2] 69))
 have NB := kp (show (w1.drew.alloc (.cells #[.int .i64 y.1, .int .i64 y.2, .int .i64 x.1, .int .i64 x.2] 69)).heap[w1.heap.size]? = some (.cells #[.int .i64 y.1, .int .i64 y.2, .int .i64 x.1, .int .i64 x.2] 69 (0, 0)) from Bk.new w1.drew _)
 have HCall := kp (HC.out _ _ (B1.out.trans (BB.out.mono B1.out.size)) NB.out)
 refine wp_region_held_drew (S := fun W => Keeps (onMb F) w W) (by kernel_rfl) (K0.out) (fun hHeld => ?_)
 refine tk 0 (v := ?_) ?_ ?_
 rotate_left
 ·(intro w hSw; go_simp; try with_reducible rfl)
 try simp only [pt]
 refine tk 1 (v := ?_) ?_ ?_
 rotate_left
 ·(intro w hSw; go_simp; try with_reducible rfl)
 try simp only [pt]
 refine tk 2 (v := ?_) ?_ ?_
 rotate_left
 ·(intro w hSw; go_simp; try with_reducible rfl)
 try simp only [pt]
 refine tk 3 (v := ?_) ?_ ?_
 rotate_left
 ·(intro w hSw; (obtain ⟨⟨e0, e1⟩, e2, e3⟩ := HLv.out _ hSw; go_simp; try with_reducible rfl))
 try simp only [pt]
 refine tk 4 (v := ?_) ?_ ?_
 rotate_left
 ·(intro w hSw; go_simp; try with_reducible rfl)
 try simp only [pt]
 refine tk 5 (v := ?_) ?_ ?_
 rotate_left
 ·(intro w hSw; go_simp; try with_reducible rfl)
 try simp only [pt]
 refine tk 6 (v := ?_) ?_ ?_
 rotate_left
 ·(intro w hSw; (obtain ⟨⟨e0, e1⟩, e2, e3⟩ := HLv.out _ hSw; go_simp; try with_reducible rfl))
 try simp only [pt]
 refine rd 7 fun K hK => ?_
 go_simp
 refine hK.out _ _ (KB.out) (fun hHeld => ?_)
 clear hK K
 try simp only [pt]
 have hne0 : w.heap.size ≠ F.mb := by omega
 have RBB := kp (Bk.on RB.out BB.out)
 refine rd 8 fun K hK => ?_
 go_simp
 refine HCall.out.mono ?_
 rintro e w7 ⟨rfl, hv, hk7, A7, c7, hm7, ht7⟩
 have R7 := kp ((hk7.block w.heap.size (lt_of_block RBB.out) hne0).trans RBB.out)
 have M7 := kp hm7
 have K7 := kp (KB.out.trans_same hk7)
 have HT7 := kp (ht7.mono KB.out.size)
 have HF7 := kp (Far.of_tn HFr.out ht7 (lt_of_block RBB.out))
 unfold valV
 clear hk7 hm7 ht7
 refine hK.out _ _ K7.out (fun hHeld => ?_)
 clear hK K
 try simp only [pt]
 obtain ⟨r0, r1, rf⟩ := Bk.c2 R7.out
 have K8 := kp ((K7.out.setCell (p := ⟨w.heap.size, 0, none⟩) (.inr (Nat.le_refl _)) (.int .i64 res.1.1)).setCell (p := ⟨w.heap.size, 1, none⟩) (.inr (Nat.le_refl _)) (.int .i64 res.1.2))
 refine rd 9 fun K hK => ?_
 go_simp
 refine hK.out _ _ (K8.out) (fun hHeld => ?_)
 clear hK K
 try simp only [pt]
 refine wpAnyH_done (by kernel_rfl) ?_ _
 go_wp2_with fail
 refine mk_end (v := res.1) hF Tryz.results132 M7.out hlt K7.out HT7.out (Nat.le_refl _) HF7.out R7.out ?_ ?_ hv <;> rfl
end Go.Proofs.YtpmdcckapddchaaGreat.El
/- Are values of one sort? -/
namespace Go.Proofs.YtpmdcckapddchaaGreat.El
open Go.RowKit Go.Maps Go.Proofs.YtpmdcckapddchaaGreat.Dt Go.Proofs.YtpmdcckapddchaaGreat.Sg

set_option maxHeartbeats 1600000 in
theorem alike1_any {w : World} {bb n c : Nat} {L : Option Addr} {l : List V} {x : V} (v : V) (hb : w.heap[bb]? = some (.cells #[.slice L n c] 126 (0, 0))) (hl : Lies 2 ValR w L l) (hx : l[0]? = some x) (hn : 0 < n) :
  Calls Tryz.prog 192 #[.agg #[.int .i64 v.1, .int .i64 v.2], .pointer (some ⟨bb, 0, none⟩)] w fun e w' => e = .returned (.bool (v.1 != x.1)) ∧ Below w.heap.size w w' := by
 have B1 := kp ((Below.refl w.heap.size w).alloc (Nat.le_refl _) (.cells #[.int .i64 v.1, .int .i64 v.2] 69))
 have N1 := kp (Bk.new w (.cells #[.int .i64 v.1, .int .i64 v.2] 69))
 have HBk := kp (Bk.on hb B1.out)
 have HLv := kp (hl.on ValR.lasts B1.out)
 obtain ⟨b, o, rfl, _, _, _, _⟩ := val_get hl hx
 have hn2 : (0 : Int) < (n : Int) := by omega
 clear hb hl
 go_enter Tryz.func192, Tryz.ntmps192
 go_upto_region 1 with fail
 generalize w.alloc (.cells #[.int .i64 v.1, .int .i64 v.2] 69) = w1 at *
 have B0 := kp (Below.refl w1.heap.size w1).drew
 have HR := kp (fun W (hW : Below w1.heap.size w1 W) => show W.cell? ⟨b, o, none⟩ = some (.int .i64 x.1) by
  obtain ⟨b1, o1, hA, _, e0, e1, _⟩ := val_get (HLv.out.on ValR.lasts hW) hx
  simp only [Option.some.injEq, Addr.mk.injEq, and_true] at hA
  obtain ⟨rfl, rfl⟩ := hA
  rwa [Nat.zero_mul, Nat.add_zero] at e0)
 refine wp_region_held_drew (S := fun W => Below w1.heap.size w1 W) (by kernel_rfl) (B0.out) (fun hHeld => ?_)
 refine tk 0 (v := ?_) ?_ ?_
 rotate_left
 ·(intro w hSw; go_simp; try with_reducible rfl)
 try simp only [pt]
 refine tk 1 (v := ?_) ?_ ?_
 rotate_left
 ·(intro w hSw; (obtain ⟨v0', v1', vf⟩ := Bk.c2 (Bk.on N1.out hSw); go_simp; try with_reducible rfl))
 try simp only [pt]
 refine tk 2 (v := ?_) ?_ ?_
 rotate_left
 ·(intro w hSw; (obtain ⟨v0', vf⟩ := Bk.c1 (Bk.on HBk.out hSw); go_simp; try with_reducible rfl))
 try simp only [pt]
 refine tk 3 (v := ?_) ?_ ?_
 rotate_left
 ·(intro w hSw; go_simp; try with_reducible rfl)
 try simp only [pt]
 refine tk 4 (v := ?_) ?_ ?_
 rotate_left
 ·(intro w hSw; go_simp; try with_reducible rfl)
 try simp only [pt]
 refine tk 5 (v := ?_) ?_ ?_
 rotate_left
 ·(intro w hSw; (have e0 := HR.out _ hSw; go_simp; try with_reducible rfl))
 try simp only [pt]
 refine tk 6 (v := ?_) ?_ ?_
 rotate_left
 ·(intro w hSw; go_simp; try with_reducible rfl)
 try simp only [pt]
 refine tk 7 (v := ?_) ?_ ?_
 rotate_left
 ·(intro w hSw; go_simp; try with_reducible rfl)
 try simp only [pt]
 refine wpAnyH_done (by kernel_rfl) ?_ _
 go_wp2_with fail
 go_ret
 exact ⟨rfl, B1.out.trans (B0.out.mono B1.out.size)⟩
set_option maxHeartbeats 3200000 in
theorem idx_vals {w : World} {bb c : Nat} {L : Option Addr} {l : List V} {x : V} (hb : w.heap[bb]? = some (.cells #[.slice L l.length c] 126 (0, 0))) (hl : Lies 2 ValR w L l) (hx : l[0]? = some x) (hlen : l.length ≤ 8000000000000) :
  Calls Tryz.prog 195 #[.slice L l.length c, .func (Fn.func 192) #[] #[.pointer (some ⟨bb, 0, none⟩)]] w fun e w' => IdxPost (l.any fun v => v.1 != x.1) e ∧ Below w.heap.size w w' := by
 have HBb := kp hb
 have HL := kp hl
 have HX := kp hx
 have hpos : 0 < l.length := by have := (List.getElem?_eq_some_iff.1 hx).1; exact this
 clear hb hl hx
 go_enter Tryz.func195, Tryz.ntmps195
 go_wp2_with fail
 go_loopw [8] (fun v wr => ∃ k : Nat, k ≤ l.length ∧ v = .int .i64 k ∧ (l.take k).any (fun v => v.1 != x.1) = false ∧ Below w.heap.size w wr) (fun v _ => l.length - (intOf v).toNat)
 case atStart => exact ⟨0, Nat.zero_le _, rfl, rfl, Below.refl _ _⟩
 case round =>
  obtain ⟨k, hk, rfl, hn, hbl⟩ := hrel
  have HN := kp hn
  have HB := kp hbl
  clear hn hbl
  by_cases hlt : k < l.length
  ·have hlt2 : (k : Int) < (l.length : Int) := by omega
   obtain ⟨y, hy⟩ : ∃ y, l[k]? = some y := ⟨_, List.getElem?_eq_getElem hlt⟩
   obtain ⟨b, o, rfl, _, e0, e1, _⟩ := val_get (HL.out.on ValR.lasts HB.out) hy
   have HC := kp (alike1_any y (Bk.on HBb.out HB.out) (HL.out.on ValR.lasts HB.out) HX.out hpos)
   have HY := kp hy
   clear hy
   cases hq : y.1 != x.1 with
   | false =>
    have HQ := kp (show (l.take (k + 1)).any (fun v => v.1 != x.1) = false by rw [List.take_add_one, HY.out, List.any_append, HN.out]; simpa using hq)
    rw [hq] at HC
    clear hq
    go_wp2_with fail
    refine HC.out.mono ?_
    rintro e w2 ⟨rfl, hb2⟩
    have HB2 := kp (HB.out.trans (hb2.mono HB.out.size))
    clear hb2
    go_wp2_with fail
    go_roundw
    case rel => exact ⟨k + 1, by omega, by go_num, HQ.out, HB2.out⟩
    case measure => simp [intOf]; omega
   | true =>
    have HQ := kp (show l.any (fun v => v.1 != x.1) = true by rw [List.any_eq_true]; exact ⟨y, List.mem_of_getElem? HY.out, hq⟩)
    rw [hq] at HC
    clear hq
    go_wp2_with fail
    refine HC.out.mono ?_
    rintro e w2 ⟨rfl, hb2⟩
    have HB2 := kp (HB.out.trans (hb2.mono HB.out.size))
    clear hb2
    go_wp2_with fail
    go_ret
    exact ⟨⟨k, rfl, by rw [HQ.out]; exact decide_eq_true (by omega)⟩, HB2.out⟩
  ·obtain rfl : k = l.length := by omega
   have HQ := kp (show l.any (fun v => v.1 != x.1) = false by have h := HN.out; rwa [List.take_length] at h)
   go_wp2_with fail
   go_ret
   exact ⟨⟨-1, rfl, by rw [HQ.out]; exact decide_eq_false (by omega)⟩, HB.out⟩
set_option maxHeartbeats 800000 in
theorem contains_vals {w : World} {A : Option Addr} {n c : Nat} {q : Bool} {fv : Value} (h : Calls Tryz.prog 195 #[.slice A n c, fv] w fun e w' => IdxPost q e ∧ Below w.heap.size w w') :
  Calls Tryz.prog 191 #[.slice A n c, fv] w fun e w' => e = .returned (.bool q) ∧ Below w.heap.size w w' := by
 have HI := kp h
 clear h
 go_enter Tryz.func191, Tryz.ntmps191
 go_wp2_with fail
 refine HI.out.mono ?_
 rintro e w1 ⟨⟨r, rfl, hr⟩, hb⟩
 have HR := kp hr
 have HB := kp hb
 clear hr hb
 go_wp2_with fail
 go_ret
 exact ⟨ret_bool HR.out, HB.out⟩
theorem elike_eq {l : List V} {x : V} (hx : l[0]? = some x) : (l.any fun v => v.1 != x.1) = !alikeB l := by
 unfold alikeB
 rw [List.getD_eq_getElem?_getD, hx, List.any_eq_not_all_not]
 simp only [Option.getD_some, bne, Bool.not_not]
def alikeS (l : List V) (st : St) : St := if alikeB l then st else failS 33 st
def MbPost (F : Fix) (known : Int) (w : World) (t : List Node) (At : Option Addr) (b : Bool) (st' : St) (e : Ending) (w' : World) : Prop :=
 e = .returned (.bool b) ∧ Keeps (onMb F) w w' ∧ ∃ A' c', Mk F w' known st' A' c' ∧ TN w.heap.size t At st'.t A'
set_option maxHeartbeats 3200000 in
theorem elike_any {F : Fix} (hF : FixOk F) {w : World} {known : Int} {st : St} {At : Option Addr} {ct : Nat} (hm : Mk F w known st At ct) {L : Option Addr} {l : List V} (cl : Nat) (hl : ValsS F w L l) (h1 : l ≠ []) (hll : l.length ≤ 8000000000000) :
  Calls Tryz.prog 171 #[.pointer (some ⟨F.mb, 0, none⟩), .slice L l.length cl] w (MbPost F known w st.t At (decide ((alikeS l st).e = 0)) (alikeS l st)) := by
 obtain ⟨x, hx⟩ : ∃ x, l[0]? = some x := ⟨_, List.getElem?_eq_getElem (List.length_pos_iff.2 h1)⟩
 have B1 := kp ((Below.refl w.heap.size w).alloc (Nat.le_refl _) (.cells #[.slice L l.length cl] 126))
 have N1 := kp (Bk.new w (.cells #[.slice L l.length cl] 126))
 have M1 := kp (hm.keep B1.out)
 have HI := kp (contains_vals (idx_vals N1.out (hl.below B1.out).now hx hll))
 rw [elike_eq hx] at HI
 have HS := kp (show alikeS l st = if alikeB l then st else failS 33 st from rfl)
 have HF := kp (fun (W : World) (h : Below w.heap.size w W) => fail_any hF (hm.keep h) 33 (by decide))
 clear hm hl hx
 generalize alikeS l st = st1 at *
 generalize alikeB l = al at *
 go_enter Tryz.func171, Tryz.ntmps171
 go_upto_region 1 with fail
 generalize w.alloc (.cells #[.slice L l.length cl] 126) = w1 at *
 obtain ⟨c0, cf⟩ := Bk.c1 N1.out
 go_wp2_with fail
 refine HI.out.mono ?_
 rintro e w2 ⟨rfl, hb2⟩
 have B2 := kp (B1.out.trans (hb2.mono B1.out.size))
 have M2 := kp (M1.out.keep hb2)
 clear hb2
 cases al with
 | true =>
  replace HS := kp (show st1 = st from HS.out)
  obtain ⟨m0, m1, m2, m3, m4, m5, m6, m7, m8, mf⟩ := Bk.c9 M2.out.blk
  go_wp2_with fail
  go_ret
  exact ⟨by rw [HS.out]; congr, Keeps.of_below B2.out _, At, ct, by rw [HS.out]; exact M2.out, by rw [HS.out]; exact TN.refl _ _ _⟩
 | false =>
  replace HS := kp (show st1 = failS 33 st from HS.out)
  have HF2 := kp (HF.out _ B2.out)
  go_wp2_with fail
  refine HF2.out.mono ?_
  rintro e w7 ⟨rfl, hv, hk7, A7, c7, hm7, ht7⟩
  have K7 := kp ((Keeps.of_below B2.out (onMb F)).trans_same hk7)
  have T7 := kp (ht7.mono B2.out.size)
  have M7 := kp hm7
  rw [← HS.out] at M7 T7
  obtain ⟨m0, m1, m2, m3, m4, m5, m6, m7, m8, mf⟩ := Bk.c9 M7.out.blk
  clear hk7 hm7 ht7 hv
  go_wp2_with fail
  go_ret
  exact ⟨by congr, K7.out, A7, c7, M7.out, T7.out⟩
end Go.Proofs.YtpmdcckapddchaaGreat.El
/- equal: each one against the next. -/
namespace Go.Proofs.YtpmdcckapddchaaGreat.El
open Go.RowKit Go.Maps Go.Proofs.YtpmdcckapddchaaGreat.Dt Go.Proofs.YtpmdcckapddchaaGreat.Sg

set_option maxRecDepth 100000 in
set_option maxHeartbeats 6400000 in
theorem equal_any {F : Fix} (hF : FixOk F) {w : World} {known : Int} {st : St} {At : Option Addr} {ct : Nat} (hm : Mk F w known st At ct) {L : Option Addr} {l : List V} (cl : Nat) (hcl : l.length ≤ cl) (hl : ValsS F w L l) (h2 : 2 ≤ l.length) (hll : l.length ≤ 8000000000000) :
  Calls Tryz.prog 126 #[.pointer (some ⟨F.mb, 0, none⟩), .slice L l.length cl] w (MkPost F known w st.t At (equalM F.c l st).1 (equalM F.c l st).2) := by
 have h1 : l ≠ [] := by intro e; rw [e] at h2; simp at h2
 have D1 := kp (Mid.new hm)
 have HAl := kp (elike_any hF D1.out.maker cl (hl.on D1.out.keeps) h1 hll)
 have HS := kp (show equalM F.c l st = if (alikeS l st).e ≠ 0 then (v0, alikeS l st) else headM F.c 2 (eqsM F.c (l.getD 0 v0) l.tail (alikeS l st)).1 (eqsM F.c (l.getD 0 v0) l.tail (alikeS l st)).2 from rfl)
 have HLv := kp hl
 obtain ⟨x, r, rfl⟩ := List.exists_cons_of_ne_nil h1
 have HLn := kp (show (x :: r).length = r.length + 1 from rfl)
 have hr1 : 1 ≤ r.length := by rw [HLn.out] at h2; omega
 have hrl : r.length < 8000000000000 := by rw [HLn.out] at hll; omega
 have hlt := hm.lt
 clear hl hm h1 h2 hll
 generalize equalM F.c (x :: r) st = res at *
 generalize alikeS (x :: r) st = st1 at *
 generalize hxn : (x :: r).length = xn at *
 obtain rfl : xn = r.length + 1 := HLn.out
 clear hxn
 go_enter Tryz.func126, Tryz.ntmps126
 go_upto_region 1 with fail
 generalize w.alloc (.cells #[.int .i64 0, .int .i64 0] 69) = w1 at *
 go_wp2_with fail
 refine HAl.out.mono ?_
 rintro e w2 ⟨rfl, hk2, A2, c2, hm2, ht2⟩
 have D2 := kp (D1.out.call hk2 hm2 ht2)
 clear hk2 hm2 ht2 HAl
 by_cases he : st1.e = 0
 ·replace HS := kp (show res = headM F.c 2 (eqsM F.c x r st1).1 (eqsM F.c x r st1).2 by rw [HS.out, if_neg (by simp [he])]; rfl)
  have he1 : decide (st1.e = 0) = true := decide_eq_true he
  have hc1 : ¬ cl = 1 := by omega
  have hcl2 : 1 ≤ cl := by omega
  rw [he1]
  clear he he1
  go_wp2_with fail
  go_loopw [5, 15] (fun v' i' wr => ∃ (k : Nat) (y : V) (vs : List V) (st' : St) (A' : Option Addr) (c' : Nat), k ≤ r.length ∧ i' = .int .i64 k ∧ (x :: r)[k]? = some y ∧ vs.length = k ∧ res = headM F.c 2 (vs ++ (eqsM F.c y (r.drop k) st').1) (eqsM F.c y (r.drop k) st').2 ∧ VRow (w.heap.size + 1) st'.t A' wr v' vs ∧ Mid F known w st.t At w.heap.size wr st' A' c') (fun _ i' _ => r.length - (intOf i').toNat)
  case atStart => exact ⟨0, x, [], st1, A2, c2, Nat.zero_le _, rfl, rfl, rfl, HS.out, VRow.nil _ _ _ _, D2.out⟩
  case round =>
   obtain ⟨k, y, vs, st', A', c', hk, rfl, hy, hvl, hres, hrow, hmid⟩ := hrel
   have HRes := kp hres
   have HRow := kp hrow
   have DR := kp hmid
   have HY := kp hy
   obtain ⟨Ao, co, rfl, hsh1, hsh2⟩ := hrow.shape
   clear hres hrow hmid hy
   by_cases hkl : k < r.length
   ·have hlt2 : (k : Int) < (r.length : Int) := by omega
    have hlt3 : (k : Int) < (r.length : Int) + 1 := by omega
    have hkw : IntKind.i64.wrap ((k : Int) + 1) = (k : Int) + 1 := IntWalk.i64_in _ (by omega)
    have hk0 : 0 ≤ (k : Int) + 1 := by omega
    have hkt : ((k : Int) + 1).toNat = k + 1 := by omega
    obtain ⟨z, hz⟩ : ∃ z, r[k]? = some z := ⟨_, List.getElem?_eq_getElem hkl⟩
    have HDr := kp (show r.drop k = z :: r.drop (k + 1) by
     rw [List.drop_eq_getElem_cons hkl]
     rw [List.getElem?_eq_getElem hkl] at hz
     simp at hz
     rw [hz])
    rw [HDr.out] at HRes
    replace HRes := kp (show res = headM F.c 2 (vs ++ ((opM F.c 6 0 [y, z] st').1 :: (eqsM F.c z (r.drop (k + 1)) (opM F.c 6 0 [y, z] st').2).1)) (eqsM F.c z (r.drop (k + 1)) (opM F.c 6 0 [y, z] st').2).2 from HRes.out)
    have HZ := kp (show (x :: r)[k + 1]? = some z by simpa using hz)
    obtain ⟨b, o, rfl, _, _, _, hvy⟩ := val_get HLv.out.now HY.out
    obtain ⟨b', o', hA, _, _, _, hvz⟩ := val_get HLv.out.now HZ.out
    simp only [Option.some.injEq, Addr.mk.injEq, and_true] at hA
    obtain ⟨rfl, rfl⟩ := hA
    have VY := kp hvy
    have VZ := kp hvz
    have HYr := kp (fun W (hW : Keeps (onMb F) w W) => show (W.cell? ⟨b, o + k * 2, none⟩ = some (.int .i64 y.1) ∧ W.cell? ⟨b, o + k * 2 + 1, none⟩ = some (.int .i64 y.2)) ∧ W.cell? ⟨b, o + (k + 1) * 2, none⟩ = some (.int .i64 z.1) ∧ W.cell? ⟨b, o + (k + 1) * 2 + 1, none⟩ = some (.int .i64 z.2) by
     obtain ⟨b1, o1, hA, _, e0, e1, _⟩ := val_get (HLv.out.on hW).now HY.out
     obtain ⟨b2, o2, hA2, _, e2, e3, _⟩ := val_get (HLv.out.on hW).now HZ.out
     simp only [Option.some.injEq, Addr.mk.injEq, and_true] at hA hA2
     obtain ⟨rfl, rfl⟩ := hA
     obtain ⟨rfl, rfl⟩ := hA2
     exact ⟨⟨e0, e1⟩, e2, e3⟩)
    clear hvy hvz hz HDr
    go_upto_region 7 with fail
    have DB := kp (DR.out.drew.alloc (.cells #[.int .i64 y.1, .int .i64 y.2, .int .i64 z.1, .int .i64 z.2] 69))
    have NB := kp (show (wr.drew.alloc (.cells #[.int .i64 y.1, .int .i64 y.2, .int .i64 z.1, .int .i64 z.2] 69)).heap[wr.heap.size]? = some (.cells #[.int .i64 y.1, .int .i64 y.2, .int .i64 z.1, .int .i64 z.2] 69 (0, 0)) from Bk.new wr.drew _)
    have RB := kp (HRow.out.below ((Below.refl wr.heap.size wr).drew.alloc (Nat.le_refl _) (.cells #[.int .i64 y.1, .int .i64 y.2, .int .i64 z.1, .int .i64 z.2] 69)))
    have HOp := kp (op_any hF DB.out.maker 6 0 (I8.of (by decide) (by decide)) v0_VI.1 2 (lies_two NB.out VY.out VZ.out) (Nat.le_succ 2))
    generalize opM F.c 6 0 [y, z] st' = pr at *
    obtain ⟨pv, ps⟩ := pr
    have hmbb : F.mb < w.heap.size + 1 := by omega
    refine wp_region_held_drew (S := fun W => Keeps (onMb F) w W) (by kernel_rfl) (DR.out.drew.keeps) (fun hHeld => ?_)
    refine tk 0 (v := ?_) ?_ ?_
    rotate_left
    ·(intro w hSw; go_simp; try with_reducible rfl)
    try simp only [pt]
    refine tk 1 (v := ?_) ?_ ?_
    rotate_left
    ·(intro w hSw; go_simp; try with_reducible rfl)
    try simp only [pt]
    refine tk 2 (v := ?_) ?_ ?_
    rotate_left
    ·(intro w hSw; go_simp; try with_reducible rfl)
    try simp only [pt]
    refine tk 3 (v := ?_) ?_ ?_
    rotate_left
    ·(intro w hSw; go_simp; try with_reducible rfl)
    try simp only [pt]
    refine tk 4 (v := ?_) ?_ ?_
    rotate_left
    ·(intro w hSw; go_simp; try with_reducible rfl)
    try simp only [pt]
    refine tk 5 (v := ?_) ?_ ?_
    rotate_left
    ·(intro w hSw; (obtain ⟨⟨e0, e1⟩, e2, e3⟩ := HYr.out _ hSw; go_simp; try with_reducible rfl))
    try simp only [pt]
    refine tk 6 (v := ?_) ?_ ?_
    rotate_left
    ·(intro w hSw; go_simp; try with_reducible rfl)
    try simp only [pt]
    refine tk 7 (v := ?_) ?_ ?_
    rotate_left
    ·(intro w hSw; go_simp; try with_reducible rfl)
    try simp only [pt]
    refine tk 8 (v := ?_) ?_ ?_
    rotate_left
    ·(intro w hSw; go_simp; try with_reducible rfl)
    try simp only [pt]
    refine tk 9 (v := ?_) ?_ ?_
    rotate_left
    ·(intro w hSw; go_simp; try with_reducible rfl)
    try simp only [pt]
    refine tk 10 (v := ?_) ?_ ?_
    rotate_left
    ·(intro w hSw; (obtain ⟨⟨e0, e1⟩, e2, e3⟩ := HYr.out _ hSw; go_simp; try with_reducible rfl))
    try simp only [pt]
    refine rd 11 fun K hK => ?_
    go_simp
    refine hK.out _ _ (DB.out.keeps) (fun hHeld => ?_)
    clear hK K
    try simp only [pt]
    refine rd 12 fun K hK => ?_
    go_simp
    refine HOp.out.mono ?_
    rintro e w7 ⟨rfl, hv, hk7, A7, c7, hm7, ht7⟩
    have D7 := kp (DB.out.call hk7 hm7 ht7)
    have R7 := kp (RB.out.call hk7 ht7 hmbb)
    have VP := kp hv
    unfold valV
    clear hv hk7 hm7 ht7
    refine hK.out _ _ D7.out.keeps (fun hHeld => ?_)
    clear hK K
    have D8 := kp (D7.out.alloc (.cells #[.int .i64 pv.1, .int .i64 pv.2] 69))
    have R8 := kp (R7.out.below ((Below.refl w7.heap.size w7).alloc (Nat.le_refl _) (.cells #[.int .i64 pv.1, .int .i64 pv.2] 69)))
    have N8 := kp (Bk.new w7 (.cells #[.int .i64 pv.1, .int .i64 pv.2] 69))
    subst hvl
    refine rd 13 fun K hK => ?_
    go_simp
    refine hK.out _ _ (D8.out.keeps) (fun hHeld => ?_)
    clear hK K
    try simp only [pt]
    refine rd 14 fun K hK => ?_
    refine push_step (by rfl) (.tmp 18) (.tmp 31) (by rfl) (by rfl) R8.out (by rfl) N8.out VP.out (by omega) (by have := D8.out.size; omega) (D8.out.fresh (Nat.le_refl _)) ?_
    intro A9 c9 w9 hp9 hg9 _
    have D9 := kp (D8.out.grown hF R8.out hg9 (Nat.lt_succ_self _))
    have R9 := kp hp9
    clear hp9 hg9
    refine hK.out _ _ D9.out.keeps (fun hHeld => ?_)
    clear hK K
    simp only [Act.put]
    refine tk 15 (v := ?_) ?_ ?_
    rotate_left
    ·(intro w hSw; go_simp; try with_reducible rfl)
    try simp only [pt]
    refine wpAnyH_done (by kernel_rfl) ?_ _
    go_wp2_with fail
    go_roundw
    case rel => exact ⟨_, _, _, ⟨vs.length + 1, by omega, by go_num, z.1, z.2, HZ.out, vs ++ [pv], by simp, ps, by rw [HRes.out]; simp, A7, R9.out, c7, D9.out⟩, rfl, rfl, rfl⟩
    case measure => simp [intOf]; omega
   ·obtain rfl : k = r.length := by omega
    replace HRes := kp (show res = headM F.c 2 vs st' by rw [HRes.out, List.drop_length]; simp [eqsM])
    have HAnd := kp (and_any hF DR.out.maker co hsh1 (HRow.out.valsS (F := F) (by omega)) (by intro e; rw [e] at hvl; simp at hvl; omega) (by omega))
    rw [← HRes.out, hvl] at HAnd
    go_wp2_with fail
    refine HAnd.out.mono ?_
    rintro e w7 ⟨rfl, hv, hk7, A7, c7, hm7, ht7⟩
    have D7 := kp (DR.out.call hk7 hm7 ht7)
    unfold valV
    clear hk7 hm7 ht7
    obtain ⟨r0, r1, rf⟩ := Bk.c2 D7.out.cell
    go_wp2_with fail
    refine D7.out.ret (v := res.1) hF Tryz.results126 ?_ ?_ hv <;> rfl
 ·replace HS := kp (show res = (v0, st1) by rw [HS.out, if_pos he])
  have he1 : decide (st1.e = 0) = false := decide_eq_false he
  rw [he1]
  obtain ⟨r0, r1, rf⟩ := Bk.c2 D2.out.cell
  go_wp2_with fail
  rw [HS.out]
  refine D2.out.ret (v := v0) hF Tryz.results126 ?_ ?_ v0_VI <;> rfl
end Go.Proofs.YtpmdcckapddchaaGreat.El
