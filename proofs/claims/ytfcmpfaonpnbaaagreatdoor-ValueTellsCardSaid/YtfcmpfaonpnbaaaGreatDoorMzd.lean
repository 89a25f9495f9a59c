import Derived.Test.YtfcmpfaonpnbaaaGreatDoorMy
import Derived.Test.YtfcmpfaonpnbaaaGreatDoorMo
/- merged by wip/merge.py from: ValWakes WorldOpen -/
/- What the document says of a function: it answers true. -/
namespace Go.Proofs.YtfcmpfaonpnbaaaGreatDoor.Vl
open Go.RowKit Go.Proofs.YtfcmpfaonpnbaaaGreatDoor.Dt Go.Proofs.YtfcmpfaonpnbaaaGreatDoor.Sg

def oneG : Sig := ⟨[], [⟨{ data := #[102] }, 1, 1, 0, 0, 1⟩], []⟩
def OnePost (w : World) (e : Ending) (w' : World) : Prop := ∃ b, e = .returned (.agg #[.slice none 0 0, .slice (some ⟨b, 0, none⟩) 1 1, .slice none 0 0]) ∧ SigAt w' none 0 (some ⟨b, 0, none⟩) 1 none 0 oneG ∧ Below w.heap.size w w'
theorem blk_two (w : World) (o1 o2 : Obj) : ((w.alloc o1).alloc o2).heap[w.heap.size]? = some o1 ∧ ((w.alloc o1).alloc o2).heap[w.heap.size + 1]? = some o2 := by
  constructor
  · rw [Below.heap_alloc _ _ _ (by simp)]
    exact Array.getElem?_push_size
  · rw [show w.heap.size + 1 = (w.alloc o1).heap.size by simp]
    exact Array.getElem?_push_size
theorem one_ret {w : World} {b : Nat} {r0 r1 r2 : Value} {act : Act} {t : TypeId} {R : Ending → World → Prop} (hb : w.heap[b]? = some (.cells #[r0, r1, r2] t (0, 0))) (h2 : act.tmps[0]? = some (.pointer (some ⟨b, 0, none⟩))) (hd : act.defers = []) (hR : R (.returned (.agg #[r0, r1, r2])) w) :
    bodyPost Tryz.prog Tryz.f22 R .ret act w := by
  obtain ⟨y0, y1, y2, _⟩ := arr3 hb
  refine bodyPost_ret (v := .agg #[r0, r1, r2]) ?_ hd hR
  simp [results, Tryz.results22, go_sem, y0, y1, y2, h2]
theorem one_sig {w : World} {b : Nat} (h : w.heap[b]? = some (.cells #[.string { data := #[102] }, .int .i64 1, .int .i64 1, .int .i64 0, .int .i64 0, .int .i64 1] 72 (0, 0))) : SigAt w none 0 (some ⟨b, 0, none⟩) 1 none 0 oneG := by
  refine ⟨.inl rfl, lies_of_block h (fun i f hf => ?_), .inl rfl, Nat.le_refl _, Nat.le_refl _, Nat.le_refl _, by simp [maxLen], by simp [maxLen], by simp [maxLen]⟩
  have hi : i = 0 := by have := (List.getElem?_eq_some_iff.1 hf).1; simpa [oneG] using this
  subst hi
  simp [oneG] at hf
  subst hf
  have k : ∀ n : Int, 0 ≤ n → n ≤ 1 → I64 n := fun n h0 h1 => ⟨by omega, by omega⟩
  exact ⟨_, rfl, ⟨rfl, by decide, k _ (by simp) (by simp), k _ (by simp) (by simp), k _ (by simp) (by simp), k _ (by simp) (by simp), k _ (by simp) (by simp)⟩, fun j u hu => by simpa using hu⟩
set_option maxRecDepth 100000 in
set_option maxHeartbeats 1600000 in
theorem one_any (w : World) : Calls Tryz.prog 22 #[] w (OnePost w) := by
  have hP := fun w' b (h1 : w'.heap[b]? = some (.cells #[.string { data := #[102] }, .int .i64 1, .int .i64 1, .int .i64 0, .int .i64 0, .int .i64 1] 72 (0, 0))) (h2 : Below w.heap.size w w') => (show OnePost w (.returned (.agg #[.slice none 0 0, .slice (some ⟨b, 0, none⟩) 1 1, .slice none 0 0])) w' from ⟨b, rfl, one_sig h1, h2⟩)
  have HP := Lib.hid hP
  clear hP
  go_enter Tryz.func22, Tryz.ntmps22
  go_wp2_with fail
  exact one_ret (b := w.heap.size) (blk_two w _ _).1 rfl rfl (HP.out _ (w.heap.size + 1) (blk_two w _ _).2 (((Below.refl _ _).alloc (Nat.le_refl _) _).alloc (by simp) _))
theorem wake_facts : withE oneG (plainW oneG) 0 [3] 7 = 0 ∧ askE oneG (withX (plainW oneG) 0 [3] 7) 0 [4] = 0 ∧ applyV oneG (withX (plainW oneG) 0 [3] 7) 0 [4] = 0 ∧ txtE 0 1 (-3) = 0 ∧ txtS [] 1 (-3) = { data := #[40, 45, 32, 51, 41] } := by
  refine ⟨by kernel_rfl, by kernel_rfl, by kernel_rfl, by kernel_rfl, by kernel_rfl⟩
/-- the world that wakes goes through -/
structure Wk (w W : World) (xb : Nat) (B1 : Option Addr) (d1 : Nat) (B2 : Option Addr) (d2 : Nat) : Prop where
  below : Below w.heap.size w W
  x0 : W.cell? ⟨xb, 0, none⟩ = some (.slice B1 0 d1)
  x1 : W.cell? ⟨xb, 1, none⟩ = some (.slice B2 1 d2)
  wr : WrldAt W B1 d1 B2 d2 (withX (plainW oneG) 0 [3] 7)
  lt : xb < W.heap.size
theorem Wk.on {w W W' : World} {xb d1 d2 : Nat} {B1 B2 : Option Addr} (h : Wk w W xb B1 d1 B2 d2) (hb : Below W.heap.size W W') : Wk w W' xb B1 d1 B2 d2 :=
  ⟨h.below.trans (hb.mono h.below.size), ((bcell hb).1 _ _ h.lt).trans h.x0, ((bcell hb).1 _ _ h.lt).trans h.x1, h.wr.on hb, Nat.lt_of_lt_of_le h.lt hb.size⟩
theorem cells_one (w : World) (n : Int) : Cells (w.alloc (.cells #[.int .i64 n] 3)) (some ⟨w.heap.size, 0, none⟩) ([n].map (Value.int .i64)) := Cells.new w [.int .i64 n] 3 (0, 0)
theorem wk_apply3 {w W : World} {xb b lb d1 d2 : Nat} {B1 B2 : Option Addr} (hk : Wk w W xb B1 d1 B2 d2) (hs : SigAt W none 0 (some ⟨b, 0, none⟩) 1 none 0 oneG) (hc : Cells W (some ⟨lb, 0, none⟩) ([3].map (Value.int .i64))) :
    Calls Tryz.prog 7 #[.agg #[.slice none 0 0, .slice (some ⟨b, 0, none⟩) 1 1, .slice none 0 0], .agg #[.slice B1 0 d1, .slice B2 1 d2], .int .i64 0, .slice (some ⟨lb, 0, none⟩) 1 1] W fun e w' => e = .returned (.tuple #[.int .i64 7, .int .i64 0]) ∧ Below W.heap.size W w' := by
  have h := apply_any (c := 1) hs hk.wr (by decide) (by decide) (by decide) (by decide) 0 ⟨by omega, by omega⟩ (l := [3]) hc (by intro y hy; rw [List.mem_singleton] at hy; subst hy; exact ⟨by omega, by omega⟩) (by decide)
  obtain ⟨e1, e2⟩ := with_apply wake_facts.1
  rw [e1, e2] at h
  exact h
theorem wk_apply4 {w W : World} {xb b lb d1 d2 : Nat} {B1 B2 : Option Addr} (hk : Wk w W xb B1 d1 B2 d2) (hs : SigAt W none 0 (some ⟨b, 0, none⟩) 1 none 0 oneG) (hc : Cells W (some ⟨lb, 0, none⟩) ([4].map (Value.int .i64))) :
    Calls Tryz.prog 7 #[.agg #[.slice none 0 0, .slice (some ⟨b, 0, none⟩) 1 1, .slice none 0 0], .agg #[.slice B1 0 d1, .slice B2 1 d2], .int .i64 0, .slice (some ⟨lb, 0, none⟩) 1 1] W fun e w' => e = .returned (.tuple #[.int .i64 0, .int .i64 0]) ∧ Below W.heap.size W w' := by
  have h := apply_any (c := 1) hs hk.wr (by decide) (by decide) (by decide) (by decide) 0 ⟨by omega, by omega⟩ (l := [4]) hc (by intro y hy; rw [List.mem_singleton] at hy; subst hy; exact ⟨by omega, by omega⟩) (by decide)
  rw [wake_facts.2.1, wake_facts.2.2.1] at h
  exact h
set_option maxRecDepth 100000 in
set_option maxHeartbeats 6400000 in
theorem wakes_any (w : World) (ht : TabOk w) : Calls Tryz.prog 6 #[] w fun e w' => e = .returned (.bool true) ∧ Below w.heap.size w w' := by
  have HT := Lib.hid ht
  clear ht
  go_enter Tryz.func6, Tryz.ntmps6
  go_wp2_with fail
  refine (one_any w).mono ?_
  rintro e w1 ⟨b1, rfl, hs1, hb1⟩
  have HB1 := Lib.hid hb1
  have HS1 := Lib.hid hs1
  clear hb1 hs1
  go_wp2_with fail
  refine (one_any w1).mono ?_
  rintro e w2 ⟨b2, rfl, _, hb2⟩
  have HB2 := Lib.hid (HB1.out.trans (hb2.mono HB1.out.size))
  have HS2 := Lib.hid (HS1.out.on hb2)
  clear hb2 HS1 HB1
  go_wp2_with fail
  refine (plain_any oneG (by decide) (by decide) w2 none (some ⟨b2, 0, none⟩) none 0 1 0 0).mono ?_
  rintro e w3 ⟨P1, p1, P2, p2, rfl, hw3, hb3⟩
  have HB3 := Lib.hid (HB2.out.trans (hb3.mono HB2.out.size))
  have HS3 := Lib.hid (HS2.out.on hb3)
  have BA := Lib.hid ((Below.refl w3.heap.size w3).alloc (Nat.le_refl _) (.cells #[.int .i64 3] 3))
  have HW4 := Lib.hid (hw3.on BA.out)
  have HS4 := Lib.hid (HS3.out.on BA.out)
  have HB4 := Lib.hid (HB3.out.trans (BA.out.mono HB3.out.size))
  have HWith := Lib.hid (with_any (c := 1) HS4.out HW4.out (by decide) (by decide) (by decide) (by decide) 0 ⟨by omega, by omega⟩ (l := [3]) (cells_one w3 3) (by intro y hy; rw [List.mem_singleton] at hy; subst hy; exact ⟨by omega, by omega⟩) (by decide) 7 ⟨by omega, by omega⟩)
  clear hb3 hw3 HS3 HB3 HS2 HB2
  go_wp2_with fail
  generalize w3.alloc (.cells #[.int .i64 3] 3) = w4 at *
  refine HWith.out.mono ?_
  rintro e w5 ⟨Q1, q1, Q2, q2, rfl, hw5, hb5⟩
  have HB5 := Lib.hid (HB4.out.trans (hb5.mono HB4.out.size))
  have eW : withW oneG (plainW oneG) 0 [3] 7 = withX (plainW oneG) 0 [3] 7 := by unfold withW; rw [if_pos wake_facts.1]
  have l1 : (withW oneG (plainW oneG) 0 [3] 7).sizes.length = 0 := by rw [eW]; kernel_rfl
  have l2 : (withW oneG (plainW oneG) 0 [3] 7).funs.length = 1 := by rw [eW]; kernel_rfl
  have hw6 := hw5
  rw [eW] at hw6
  rw [l1, l2, wake_facts.1]
  have BX := Lib.hid ((Below.refl w5.heap.size w5).alloc (Nat.le_refl _) (.cells #[.slice Q1 0 q1, .slice Q2 1 q2] 30))
  have HX := Lib.hid (show Wk w (w5.alloc (.cells #[.slice Q1 0 q1, .slice Q2 1 q2] 30)) w5.heap.size Q1 q1 Q2 q2 from ⟨HB5.out.trans (BX.out.mono HB5.out.size), by rw [World.cell?_alloc_mark]; rfl, by rw [World.cell?_alloc_mark]; rfl, hw6.on BX.out, by simp⟩)
  clear hw5 hw6 hb5 eW l1 l2 HB4 HW4 HS4 HWith BA BX HB5
  go_upto_region 2 with fail
  generalize hxb : w5.heap.size = xb at *
  clear hxb
  generalize w5.alloc (.cells #[.slice Q1 0 q1, .slice Q2 1 q2] 30) = wk at *
  have HK := HX
  clear HX
  go_cut [3, 4] from 17 to 23 (fun va ve W => va = .int .i64 7 ∧ ve = .int .i64 0 ∧ Wk w W xb Q1 q1 Q2 q2)
  case first =>
    have K0 := Lib.hid (HK.out.on (Below.refl wk.heap.size wk).drew)
    refine wp_region_held_drew (S := fun W => W.cell? ⟨xb, 0, none⟩ = some (.slice Q1 0 q1) ∧ W.cell? ⟨xb, 1, none⟩ = some (.slice Q2 1 q2)) (by kernel_rfl) (⟨K0.out.x0, K0.out.x1⟩) (fun hHeld => ?_)
    generalize hwd : wk.drew = wd at *
    clear hwd
    refine wpAnyH_take (i := 1) (oi := Oper.mk _ _ _ _ _ _) (v := ?_) rfl (by kernel_rfl) (by kernel_rfl) (by kernel_rfl) (fun _ _ _ h => h) (Or.inl ⟨by rfl, ?_⟩) (by assumption) ?_
    rotate_left
    · (intro w hSw; (try dsimp only at hSw); go_simp; try with_reducible rfl)
    try simp only [Act.put, List.setIfInBounds_toArray, List.set_cons_zero, List.set_cons_succ]
    refine wpAnyH_ready (rs := [0, 2]) (by kernel_rfl) (by simp) ?_
    refine AllReadyH.cons (o := Oper.mk _ _ _ _ _ _) rfl (fun K hK => ?_) (AllReadyH.cons (o := Oper.mk _ _ _ _ _ _) rfl (fun K hK => ?_) AllReadyH.nil)
    · go_simp
      go_wp2_with (go_at_call 22; refine (one_any _).mono ?_; rintro e w2 ⟨b, rfl, hs2, hb2⟩; have K2 := Lib.hid (K0.out.on hb2); have S2 := Lib.hid hs2)
      refine hK.out _ _ (⟨K2.out.x0, K2.out.x1⟩) (fun hHeld => ?_)
      clear hK K hb2 hs2
      try simp only [Act.put, List.setIfInBounds_toArray, List.set_cons_zero, List.set_cons_succ]
      refine wpAnyH_ready (rs := [2]) (by kernel_rfl) (by simp) ?_
      refine AllReadyH.cons (o := Oper.mk _ _ _ _ _ _) rfl (fun K hK => ?_) AllReadyH.nil
      go_simp
      have BA := Lib.hid ((Below.refl w2.heap.size w2).alloc (Nat.le_refl _) (.cells #[.int .i64 3] 3))
      have K3 := Lib.hid (K2.out.on BA.out)
      have S3 := Lib.hid (S2.out.on BA.out)
      have C3 := Lib.hid (cells_one w2 3)
      refine hK.out _ _ (⟨K3.out.x0, K3.out.x1⟩) (fun hHeld => ?_)
      clear hK K
      try simp only [Act.put, List.setIfInBounds_toArray, List.set_cons_zero, List.set_cons_succ]
      generalize hlb : w2.heap.size = lb at *
      clear hlb
      generalize hw3 : w2.alloc (.cells #[.int .i64 3] 3) = w3 at *
      clear hw3
      have HAp := Lib.hid (wk_apply3 K3.out S3.out C3.out)
      refine wpAnyH_ready (rs := [3]) (by kernel_rfl) (by simp) ?_
      refine AllReadyH.cons (o := Oper.mk _ _ _ _ _ _) rfl (fun K hK => ?_) AllReadyH.nil
      go_simp
      go_wp2_with (go_at_call 7; refine HAp.out.mono ?_; rintro e w4 ⟨rfl, hb4⟩; have K4 := Lib.hid (K3.out.on hb4))
      refine hK.out _ _ (⟨K4.out.x0, K4.out.x1⟩) (fun hHeld => ?_)
      clear hK K hb4
      try simp only [Act.put, List.setIfInBounds_toArray, List.set_cons_zero, List.set_cons_succ]
      refine wpAnyH_take (i := 4) (oi := Oper.mk _ _ _ _ _ _) (v := ?_) rfl (by kernel_rfl) (by kernel_rfl) (by kernel_rfl) (fun _ _ _ h => h) (Or.inl ⟨by rfl, ?_⟩) (by assumption) ?_
      rotate_left
      · (intro w hSw; (try dsimp only at hSw); go_simp; try with_reducible rfl)
      try simp only [Act.put, List.setIfInBounds_toArray, List.set_cons_zero, List.set_cons_succ]
      refine wpAnyH_take (i := 5) (oi := Oper.mk _ _ _ _ _ _) (v := ?_) rfl (by kernel_rfl) (by kernel_rfl) (by kernel_rfl) (fun _ _ _ h => h) (Or.inl ⟨by rfl, ?_⟩) (by assumption) ?_
      rotate_left
      · (intro w hSw; (try dsimp only at hSw); go_simp; try with_reducible rfl)
      try simp only [Act.put, List.setIfInBounds_toArray, List.set_cons_zero, List.set_cons_succ]
      refine wpAnyH_take (i := 6) (oi := Oper.mk _ _ _ _ _ _) (v := ?_) rfl (by kernel_rfl) (by kernel_rfl) (by kernel_rfl) (fun _ _ _ h => h) (Or.inl ⟨by rfl, ?_⟩) (by assumption) ?_
      rotate_left
      · (intro w hSw; (try dsimp only at hSw); go_simp; try with_reducible rfl)
      try simp only [Act.put, List.setIfInBounds_toArray, List.set_cons_zero, List.set_cons_succ]
      refine wpAnyH_take (i := 7) (oi := Oper.mk _ _ _ _ _ _) (v := ?_) rfl (by kernel_rfl) (by kernel_rfl) (by kernel_rfl) (fun _ _ _ h => h) (Or.inl ⟨by rfl, ?_⟩) (by assumption) ?_
      rotate_left
      · (intro w hSw; (try dsimp only at hSw); go_simp; try with_reducible rfl)
      try simp only [Act.put, List.setIfInBounds_toArray, List.set_cons_zero, List.set_cons_succ]
      refine wpAnyH_take (i := 8) (oi := Oper.mk _ _ _ _ _ _) (v := ?_) rfl (by kernel_rfl) (by kernel_rfl) (by kernel_rfl) (fun _ _ _ h => h) (Or.inl ⟨by rfl, ?_⟩) (by assumption) ?_
      rotate_left
      · (intro w hSw; (try dsimp only at hSw); go_simp; try with_reducible rfl)
      try simp only [Act.put, List.setIfInBounds_toArray, List.set_cons_zero, List.set_cons_succ]
      refine wpAnyH_done (by kernel_rfl) ?_ _
      go_wp2_with fail
      go_meet
      exact ⟨rfl, rfl, K4.out⟩
    · go_simp
      have BA := Lib.hid ((Below.refl wd.heap.size wd).alloc (Nat.le_refl _) (.cells #[.int .i64 3] 3))
      have K2 := Lib.hid (K0.out.on BA.out)
      have C2 := Lib.hid (cells_one wd 3)
      refine hK.out _ _ (⟨K2.out.x0, K2.out.x1⟩) (fun hHeld => ?_)
      clear hK K
      try simp only [Act.put, List.setIfInBounds_toArray, List.set_cons_zero, List.set_cons_succ]
      generalize hlb : wd.heap.size = lb at *
      clear hlb
      generalize hw2 : wd.alloc (.cells #[.int .i64 3] 3) = w2 at *
      clear hw2
      refine wpAnyH_ready (rs := [0]) (by kernel_rfl) (by simp) ?_
      refine AllReadyH.cons (o := Oper.mk _ _ _ _ _ _) rfl (fun K hK => ?_) AllReadyH.nil
      go_simp
      go_wp2_with (go_at_call 22; refine (one_any _).mono ?_; rintro e w3 ⟨b, rfl, hs3, hb3⟩; have K3 := Lib.hid (K2.out.on hb3); have S3 := Lib.hid hs3; have C3 := Lib.hid (C2.out.on hb3))
      refine hK.out _ _ (⟨K3.out.x0, K3.out.x1⟩) (fun hHeld => ?_)
      clear hK K hb3 hs3
      try simp only [Act.put, List.setIfInBounds_toArray, List.set_cons_zero, List.set_cons_succ]
      have HAp := Lib.hid (wk_apply3 K3.out S3.out C3.out)
      refine wpAnyH_ready (rs := [3]) (by kernel_rfl) (by simp) ?_
      refine AllReadyH.cons (o := Oper.mk _ _ _ _ _ _) rfl (fun K hK => ?_) AllReadyH.nil
      go_simp
      go_wp2_with (go_at_call 7; refine HAp.out.mono ?_; rintro e w4 ⟨rfl, hb4⟩; have K4 := Lib.hid (K3.out.on hb4))
      refine hK.out _ _ (⟨K4.out.x0, K4.out.x1⟩) (fun hHeld => ?_)
      clear hK K hb4
      try simp only [Act.put, List.setIfInBounds_toArray, List.set_cons_zero, List.set_cons_succ]
      refine wpAnyH_take (i := 4) (oi := Oper.mk _ _ _ _ _ _) (v := ?_) rfl (by kernel_rfl) (by kernel_rfl) (by kernel_rfl) (fun _ _ _ h => h) (Or.inl ⟨by rfl, ?_⟩) (by assumption) ?_
      rotate_left
      · (intro w hSw; (try dsimp only at hSw); go_simp; try with_reducible rfl)
      try simp only [Act.put, List.setIfInBounds_toArray, List.set_cons_zero, List.set_cons_succ]
      refine wpAnyH_take (i := 5) (oi := Oper.mk _ _ _ _ _ _) (v := ?_) rfl (by kernel_rfl) (by kernel_rfl) (by kernel_rfl) (fun _ _ _ h => h) (Or.inl ⟨by rfl, ?_⟩) (by assumption) ?_
      rotate_left
      · (intro w hSw; (try dsimp only at hSw); go_simp; try with_reducible rfl)
      try simp only [Act.put, List.setIfInBounds_toArray, List.set_cons_zero, List.set_cons_succ]
      refine wpAnyH_take (i := 6) (oi := Oper.mk _ _ _ _ _ _) (v := ?_) rfl (by kernel_rfl) (by kernel_rfl) (by kernel_rfl) (fun _ _ _ h => h) (Or.inl ⟨by rfl, ?_⟩) (by assumption) ?_
      rotate_left
      · (intro w hSw; (try dsimp only at hSw); go_simp; try with_reducible rfl)
      try simp only [Act.put, List.setIfInBounds_toArray, List.set_cons_zero, List.set_cons_succ]
      refine wpAnyH_take (i := 7) (oi := Oper.mk _ _ _ _ _ _) (v := ?_) rfl (by kernel_rfl) (by kernel_rfl) (by kernel_rfl) (fun _ _ _ h => h) (Or.inl ⟨by rfl, ?_⟩) (by assumption) ?_
      rotate_left
      · (intro w hSw; (try dsimp only at hSw); go_simp; try with_reducible rfl)
      try simp only [Act.put, List.setIfInBounds_toArray, List.set_cons_zero, List.set_cons_succ]
      refine wpAnyH_take (i := 8) (oi := Oper.mk _ _ _ _ _ _) (v := ?_) rfl (by kernel_rfl) (by kernel_rfl) (by kernel_rfl) (fun _ _ _ h => h) (Or.inl ⟨by rfl, ?_⟩) (by assumption) ?_
      rotate_left
      · (intro w hSw; (try dsimp only at hSw); go_simp; try with_reducible rfl)
      try simp only [Act.put, List.setIfInBounds_toArray, List.set_cons_zero, List.set_cons_succ]
      refine wpAnyH_done (by kernel_rfl) ?_ _
      go_wp2_with fail
      go_meet
      exact ⟨rfl, rfl, K4.out⟩
  case rest =>
    obtain ⟨rfl, rfl, hk⟩ := hcut
    have HK := Lib.hid hk
    clear hk
    generalize wc = wk at *
    go_upto_region 3 with fail
    go_cut [5, 6] from 24 to 30 (fun va ve W => va = .int .i64 0 ∧ ve = .int .i64 0 ∧ Wk w W xb Q1 q1 Q2 q2)
    case first =>
      have K0 := Lib.hid (HK.out.on (Below.refl wk.heap.size wk).drew)
      refine wp_region_held_drew (S := fun W => W.cell? ⟨xb, 0, none⟩ = some (.slice Q1 0 q1) ∧ W.cell? ⟨xb, 1, none⟩ = some (.slice Q2 1 q2)) (by kernel_rfl) (⟨K0.out.x0, K0.out.x1⟩) (fun hHeld => ?_)
      generalize hwd : wk.drew = wd at *
      clear hwd
      refine wpAnyH_take (i := 1) (oi := Oper.mk _ _ _ _ _ _) (v := ?_) rfl (by kernel_rfl) (by kernel_rfl) (by kernel_rfl) (fun _ _ _ h => h) (Or.inl ⟨by rfl, ?_⟩) (by assumption) ?_
      rotate_left
      · (intro w hSw; (try dsimp only at hSw); go_simp; try with_reducible rfl)
      try simp only [Act.put, List.setIfInBounds_toArray, List.set_cons_zero, List.set_cons_succ]
      refine wpAnyH_ready (rs := [0, 2]) (by kernel_rfl) (by simp) ?_
      refine AllReadyH.cons (o := Oper.mk _ _ _ _ _ _) rfl (fun K hK => ?_) (AllReadyH.cons (o := Oper.mk _ _ _ _ _ _) rfl (fun K hK => ?_) AllReadyH.nil)
      · go_simp
        go_wp2_with (go_at_call 22; refine (one_any _).mono ?_; rintro e w2 ⟨b, rfl, hs2, hb2⟩; have K2 := Lib.hid (K0.out.on hb2); have S2 := Lib.hid hs2)
        refine hK.out _ _ (⟨K2.out.x0, K2.out.x1⟩) (fun hHeld => ?_)
        clear hK K hb2 hs2
        try simp only [Act.put, List.setIfInBounds_toArray, List.set_cons_zero, List.set_cons_succ]
        refine wpAnyH_ready (rs := [2]) (by kernel_rfl) (by simp) ?_
        refine AllReadyH.cons (o := Oper.mk _ _ _ _ _ _) rfl (fun K hK => ?_) AllReadyH.nil
        go_simp
        have BA := Lib.hid ((Below.refl w2.heap.size w2).alloc (Nat.le_refl _) (.cells #[.int .i64 4] 3))
        have K3 := Lib.hid (K2.out.on BA.out)
        have S3 := Lib.hid (S2.out.on BA.out)
        have C3 := Lib.hid (cells_one w2 4)
        refine hK.out _ _ (⟨K3.out.x0, K3.out.x1⟩) (fun hHeld => ?_)
        clear hK K
        try simp only [Act.put, List.setIfInBounds_toArray, List.set_cons_zero, List.set_cons_succ]
        generalize hlb : w2.heap.size = lb at *
        clear hlb
        generalize hw3 : w2.alloc (.cells #[.int .i64 4] 3) = w3 at *
        clear hw3
        have HAp := Lib.hid (wk_apply4 K3.out S3.out C3.out)
        refine wpAnyH_ready (rs := [3]) (by kernel_rfl) (by simp) ?_
        refine AllReadyH.cons (o := Oper.mk _ _ _ _ _ _) rfl (fun K hK => ?_) AllReadyH.nil
        go_simp
        go_wp2_with (go_at_call 7; refine HAp.out.mono ?_; rintro e w4 ⟨rfl, hb4⟩; have K4 := Lib.hid (K3.out.on hb4))
        refine hK.out _ _ (⟨K4.out.x0, K4.out.x1⟩) (fun hHeld => ?_)
        clear hK K hb4
        try simp only [Act.put, List.setIfInBounds_toArray, List.set_cons_zero, List.set_cons_succ]
        refine wpAnyH_take (i := 4) (oi := Oper.mk _ _ _ _ _ _) (v := ?_) rfl (by kernel_rfl) (by kernel_rfl) (by kernel_rfl) (fun _ _ _ h => h) (Or.inl ⟨by rfl, ?_⟩) (by assumption) ?_
        rotate_left
        · (intro w hSw; (try dsimp only at hSw); go_simp; try with_reducible rfl)
        try simp only [Act.put, List.setIfInBounds_toArray, List.set_cons_zero, List.set_cons_succ]
        refine wpAnyH_take (i := 5) (oi := Oper.mk _ _ _ _ _ _) (v := ?_) rfl (by kernel_rfl) (by kernel_rfl) (by kernel_rfl) (fun _ _ _ h => h) (Or.inl ⟨by rfl, ?_⟩) (by assumption) ?_
        rotate_left
        · (intro w hSw; (try dsimp only at hSw); go_simp; try with_reducible rfl)
        try simp only [Act.put, List.setIfInBounds_toArray, List.set_cons_zero, List.set_cons_succ]
        refine wpAnyH_take (i := 6) (oi := Oper.mk _ _ _ _ _ _) (v := ?_) rfl (by kernel_rfl) (by kernel_rfl) (by kernel_rfl) (fun _ _ _ h => h) (Or.inl ⟨by rfl, ?_⟩) (by assumption) ?_
        rotate_left
        · (intro w hSw; (try dsimp only at hSw); go_simp; try with_reducible rfl)
        try simp only [Act.put, List.setIfInBounds_toArray, List.set_cons_zero, List.set_cons_succ]
        refine wpAnyH_take (i := 7) (oi := Oper.mk _ _ _ _ _ _) (v := ?_) rfl (by kernel_rfl) (by kernel_rfl) (by kernel_rfl) (fun _ _ _ h => h) (Or.inl ⟨by rfl, ?_⟩) (by assumption) ?_
        rotate_left
        · (intro w hSw; (try dsimp only at hSw); go_simp; try with_reducible rfl)
        try simp only [Act.put, List.setIfInBounds_toArray, List.set_cons_zero, List.set_cons_succ]
        refine wpAnyH_take (i := 8) (oi := Oper.mk _ _ _ _ _ _) (v := ?_) rfl (by kernel_rfl) (by kernel_rfl) (by kernel_rfl) (fun _ _ _ h => h) (Or.inl ⟨by rfl, ?_⟩) (by assumption) ?_
        rotate_left
        · (intro w hSw; (try dsimp only at hSw); go_simp; try with_reducible rfl)
        try simp only [Act.put, List.setIfInBounds_toArray, List.set_cons_zero, List.set_cons_succ]
        refine wpAnyH_done (by kernel_rfl) ?_ _
        go_wp2_with fail
        go_meet
        exact ⟨rfl, rfl, K4.out⟩
      · go_simp
        have BA := Lib.hid ((Below.refl wd.heap.size wd).alloc (Nat.le_refl _) (.cells #[.int .i64 4] 3))
        have K2 := Lib.hid (K0.out.on BA.out)
        have C2 := Lib.hid (cells_one wd 4)
        refine hK.out _ _ (⟨K2.out.x0, K2.out.x1⟩) (fun hHeld => ?_)
        clear hK K
        try simp only [Act.put, List.setIfInBounds_toArray, List.set_cons_zero, List.set_cons_succ]
        generalize hlb : wd.heap.size = lb at *
        clear hlb
        generalize hw2 : wd.alloc (.cells #[.int .i64 4] 3) = w2 at *
        clear hw2
        refine wpAnyH_ready (rs := [0]) (by kernel_rfl) (by simp) ?_
        refine AllReadyH.cons (o := Oper.mk _ _ _ _ _ _) rfl (fun K hK => ?_) AllReadyH.nil
        go_simp
        go_wp2_with (go_at_call 22; refine (one_any _).mono ?_; rintro e w3 ⟨b, rfl, hs3, hb3⟩; have K3 := Lib.hid (K2.out.on hb3); have S3 := Lib.hid hs3; have C3 := Lib.hid (C2.out.on hb3))
        refine hK.out _ _ (⟨K3.out.x0, K3.out.x1⟩) (fun hHeld => ?_)
        clear hK K hb3 hs3
        try simp only [Act.put, List.setIfInBounds_toArray, List.set_cons_zero, List.set_cons_succ]
        have HAp := Lib.hid (wk_apply4 K3.out S3.out C3.out)
        refine wpAnyH_ready (rs := [3]) (by kernel_rfl) (by simp) ?_
        refine AllReadyH.cons (o := Oper.mk _ _ _ _ _ _) rfl (fun K hK => ?_) AllReadyH.nil
        go_simp
        go_wp2_with (go_at_call 7; refine HAp.out.mono ?_; rintro e w4 ⟨rfl, hb4⟩; have K4 := Lib.hid (K3.out.on hb4))
        refine hK.out _ _ (⟨K4.out.x0, K4.out.x1⟩) (fun hHeld => ?_)
        clear hK K hb4
        try simp only [Act.put, List.setIfInBounds_toArray, List.set_cons_zero, List.set_cons_succ]
        refine wpAnyH_take (i := 4) (oi := Oper.mk _ _ _ _ _ _) (v := ?_) rfl (by kernel_rfl) (by kernel_rfl) (by kernel_rfl) (fun _ _ _ h => h) (Or.inl ⟨by rfl, ?_⟩) (by assumption) ?_
        rotate_left
        · (intro w hSw; (try dsimp only at hSw); go_simp; try with_reducible rfl)
        try simp only [Act.put, List.setIfInBounds_toArray, List.set_cons_zero, List.set_cons_succ]
        refine wpAnyH_take (i := 5) (oi := Oper.mk _ _ _ _ _ _) (v := ?_) rfl (by kernel_rfl) (by kernel_rfl) (by kernel_rfl) (fun _ _ _ h => h) (Or.inl ⟨by rfl, ?_⟩) (by assumption) ?_
        rotate_left
        · (intro w hSw; (try dsimp only at hSw); go_simp; try with_reducible rfl)
        try simp only [Act.put, List.setIfInBounds_toArray, List.set_cons_zero, List.set_cons_succ]
        refine wpAnyH_take (i := 6) (oi := Oper.mk _ _ _ _ _ _) (v := ?_) rfl (by kernel_rfl) (by kernel_rfl) (by kernel_rfl) (fun _ _ _ h => h) (Or.inl ⟨by rfl, ?_⟩) (by assumption) ?_
        rotate_left
        · (intro w hSw; (try dsimp only at hSw); go_simp; try with_reducible rfl)
        try simp only [Act.put, List.setIfInBounds_toArray, List.set_cons_zero, List.set_cons_succ]
        refine wpAnyH_take (i := 7) (oi := Oper.mk _ _ _ _ _ _) (v := ?_) rfl (by kernel_rfl) (by kernel_rfl) (by kernel_rfl) (fun _ _ _ h => h) (Or.inl ⟨by rfl, ?_⟩) (by assumption) ?_
        rotate_left
        · (intro w hSw; (try dsimp only at hSw); go_simp; try with_reducible rfl)
        try simp only [Act.put, List.setIfInBounds_toArray, List.set_cons_zero, List.set_cons_succ]
        refine wpAnyH_take (i := 8) (oi := Oper.mk _ _ _ _ _ _) (v := ?_) rfl (by kernel_rfl) (by kernel_rfl) (by kernel_rfl) (fun _ _ _ h => h) (Or.inl ⟨by rfl, ?_⟩) (by assumption) ?_
        rotate_left
        · (intro w hSw; (try dsimp only at hSw); go_simp; try with_reducible rfl)
        try simp only [Act.put, List.setIfInBounds_toArray, List.set_cons_zero, List.set_cons_succ]
        refine wpAnyH_done (by kernel_rfl) ?_ _
        go_wp2_with fail
        go_meet
        exact ⟨rfl, rfl, K4.out⟩
    case rest =>
      obtain ⟨rfl, rfl, hk⟩ := hcut
      have HK := Lib.hid hk
      clear hk
      generalize wc = wk at *
      go_wp2_with fail
      refine (one_any _).mono ?_
      rintro e w2 ⟨b, rfl, hs2, hb2⟩
      have HB2 := Lib.hid (HK.out.below.trans (hb2.mono HK.out.below.size))
      have HTx := Lib.hid (vtext_any (c1 := 0) (n2 := 1) (c2 := 1) (n3 := 0) (c3 := 0) (A2 := some ⟨b, 0, none⟩) (A3 := none) (hs2.sorts) (by decide) 1 (-3) ⟨by omega, by omega⟩ ⟨by omega, by omega⟩ (HT.out.on HB2.out))
      clear hs2 hb2
      go_wp2_with fail
      refine HTx.out.mono ?_
      rintro e w3 ⟨rfl, hb3⟩
      have HB3 := Lib.hid (HB2.out.trans (hb3.mono HB2.out.size))
      have e1 : txtE oneG.sorts.length 1 (-3) = 0 := wake_facts.2.2.2.1
      have e2 : txtS oneG.sorts 1 (-3) = { data := #[40, 45, 32, 51, 41] } := wake_facts.2.2.2.2
      rw [e1, e2]
      clear e1 e2 hb3
      go_wp2_with fail
      go_ret
      exact ⟨rfl, HB3.out⟩
end Go.Proofs.YtfcmpfaonpnbaaaGreatDoor.Vl
/- Arguments that are worlds: whoever is read so reads as such. No condition. -/
namespace Go.Proofs.YtfcmpfaonpnbaaaGreatDoor.Dt
open Go.RowKit Go.ChangeShapes Go.WideShapes Go.Deep
section
variable {H : Type} {enc : TypeId × Value → H}
theorem cRow : Tryz.prog.cellsOf 69 = 4 := by kernel_rfl
theorem bRow : Tryz.prog.bytesOf 69 = 32 := by kernel_rfl
theorem cFV : Tryz.prog.cellsOf 56 = 2 := by kernel_rfl
theorem bFV : Tryz.prog.bytesOf 56 = 32 := by kernel_rfl
theorem bI : Tryz.prog.bytesOf 3 = 8 := by kernel_rfl
theorem cLRow : Tryz.prog.cellsOf 54 = 1 := by kernel_rfl
theorem cLFV : Tryz.prog.cellsOf 28 = 1 := by kernel_rfl
theorem cLI : Tryz.prog.cellsOf 27 = 1 := by kernel_rfl
theorem cWorld : Tryz.prog.cellsOf 30 = 2 := by kernel_rfl
theorem fRow : ∃ f0 f1 : Field, Tryz.prog.underlying 69 = some (.struct #[f0, f1]) ∧ f0.offset = 0 ∧ f1.offset = 3 ∧ f0.type = 58 ∧ f1.type = 3 := ⟨_, _, Tryz.underlying69, rfl, rfl, rfl, rfl⟩
theorem fFV : ∃ f0 f1 : Field, Tryz.prog.underlying 56 = some (.struct #[f0, f1]) ∧ f0.offset = 0 ∧ f1.offset = 1 ∧ f0.type = 54 ∧ f1.type = 3 := ⟨_, _, Tryz.underlying56, rfl, rfl, rfl, rfl⟩
theorem fWorld : ∃ f0 f1 : Field, Tryz.prog.underlying 30 = some (.struct #[f0, f1]) ∧ f0.offset = 0 ∧ f1.offset = 1 ∧ f0.type = 27 ∧ f1.type = 28 := ⟨_, _, Tryz.underlying30, rfl, rfl, rfl, rfl⟩
theorem opens_row (fuel : Nat) : Opens H enc Tryz.prog 69 RowR fuel := by
  intro W cs y h hf
  obtain ⟨f0, f1, hu, o0, o1, t0, t1⟩ := fRow
  have hlen := struct_len hu h
  rw [cRow] at hlen
  obtain ⟨a, b, c, d, rfl⟩ := list4 hlen
  obtain ⟨⟨x0, x1, x2⟩, hx⟩ := field_of hu h hf 0 f0 rfl (fun fu _ => by rw [t0]; exact opens_a3 fu)
  rw [o0, t0, cA3] at hx
  obtain ⟨k, hk⟩ := field_of hu h hf 1 f1 rfl (fun fu _ => by rw [t1]; exact opens_int Tryz.underlying3 fu)
  rw [o1, t1, cI] at hk
  obtain ⟨hx1, hx2, hx3, hx4⟩ := hx
  obtain ⟨hk1, hk2⟩ := hk.i64
  simp at hx1 hk1
  obtain ⟨hxa, hxb, hxc⟩ := hx1
  subst hk1 hxa hxb hxc
  exact ⟨⟨x0, x1, x2, k⟩, rfl, hx2, hx3, hx4, hk2⟩
theorem opens_fv (fuel : Nat) : Opens H enc Tryz.prog 56 FunValR fuel := by
  intro W cs y h hf
  obtain ⟨f0, f1, hu, o0, o1, t0, t1⟩ := fFV
  have hlen := struct_len hu h
  rw [cFV] at hlen
  obtain ⟨a, b, rfl⟩ := list2 hlen
  obtain ⟨x, hx⟩ := field_of hu h hf 0 f0 rfl (fun fu _ => by rw [t0]; exact opens_slice Tryz.underlying54 cRow bRow (by omega) (fun fu' _ => opens_row fu'))
  rw [o0, t0, cLRow] at hx
  obtain ⟨k, hk⟩ := field_of hu h hf 1 f1 rfl (fun fu _ => by rw [t1]; exact opens_int Tryz.underlying3 fu)
  rw [o1, t1, cI] at hk
  obtain ⟨A, cap, a1, a2, a3, a4, a5⟩ := hx
  obtain ⟨hk1, hk2⟩ := hk.i64
  simp at a1 hk1
  subst a1 hk1
  exact ⟨⟨x, k⟩, A, cap, rfl, a2, a3, a4, hk2, a5⟩
theorem opens_world (fuel : Nat) : Opens H enc Tryz.prog 30 WrldR fuel := by
  intro W cs y h hf
  obtain ⟨f0, f1, hu, o0, o1, t0, t1⟩ := fWorld
  have hlen := struct_len hu h
  rw [cWorld] at hlen
  obtain ⟨a, b, rfl⟩ := list2 hlen
  obtain ⟨x, hx⟩ := field_of hu h hf 0 f0 rfl (fun fu _ => by rw [t0]; exact opens_slice Tryz.underlying27 cI bI (by omega) (fun fu' _ => opens_int Tryz.underlying3 fu'))
  rw [o0, t0, cLI] at hx
  obtain ⟨z, hz⟩ := field_of hu h hf 1 f1 rfl (fun fu _ => by rw [t1]; exact opens_slice Tryz.underlying28 cFV bFV (by omega) (fun fu' _ => opens_fv fu'))
  rw [o1, t1, cLFV] at hz
  obtain ⟨A, cap, a1, a2, a3, a4, a5⟩ := hx
  obtain ⟨B, cbp, b1, b2, b3, b4, b5⟩ := hz
  simp at a1 b1
  subst a1 b1
  exact ⟨⟨x, z⟩, A, cap, B, cbp, rfl, ⟨a2, b2, a3, b3, a4, b4, a5, b5⟩⟩
set_option maxRecDepth 100000 in
theorem open_world {W : World} {base : Nat} {v : Value} {d : DataW H} {ps : List MemPlace} (hval : Value.okWide Tryz.prog W .any base 30 v) (h : DataW.Trod enc Tryz.prog W 0 (fun _ => true) true 30 v d ps) (hf : Fits Tryz.prog 30 d) :
    ∃ x A1 c1 A2 c2, v = .agg #[.slice A1 x.sizes.length c1, .slice A2 x.funs.length c2] ∧ WrldAt W A1 c1 A2 c2 x := by
  obtain ⟨f0, f1, hu, _⟩ := fWorld
  obtain ⟨cs, rfl, hsz⟩ := okWide_struct hu hval
  obtain ⟨fuel, ht⟩ := h
  obtain ⟨x, A1, c1, A2, c2, e, hg⟩ := opens_world fuel W _ _ ht hf
  refine ⟨x, A1, c1, A2, c2, ?_, hg⟩
  have e2 : cs.toList = _ := e
  congr 1
  exact Array.toList_inj.1 e2
end
end Go.Proofs.YtfcmpfaonpnbaaaGreatDoor.Dt
