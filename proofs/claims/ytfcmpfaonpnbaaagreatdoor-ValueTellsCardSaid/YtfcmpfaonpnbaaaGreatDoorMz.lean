import Derived.Test.YtfcmpfaonpnbaaaGreatDoorMy
import Derived.Test.YtfcmpfaonpnbaaaGreatDoorMq
/- merged by wip/merge.py from: VRefPlain -/
/- The document's value: the plain world. -/
namespace Go.Proofs.YtfcmpfaonpnbaaaGreatDoor.Vl
open Go.RowKit Go.Proofs.YtfcmpfaonpnbaaaGreatDoor.Dt Go.Proofs.YtfcmpfaonpnbaaaGreatDoor.Sg

theorem rplain_ret {w : World} {b : Nat} {r0 r1 : Value} {act : Act} {t : TypeId} {R : Ending → World → Prop} (hb : w.heap[b]? = some (.cells #[r0, r1] t (0, 0))) (h2 : act.tmps[2]? = some (.pointer (some ⟨b, 0, none⟩))) (hd : act.defers = []) (hR : R (.returned (.agg #[r0, r1])) w) :
    bodyPost Tryz.prog Tryz.f19 R .ret act w := by
  obtain ⟨y0, y1, _⟩ := two_cells hb
  refine bodyPost_ret (v := .agg #[r0, r1]) ?_ hd hR
  simp [results, Tryz.results19, go_sem, y0, y1, h2]
/-- the boxes while a plain world is made -/
structure RPl (w W : World) (u0 u1 u2 v0 v1 : Value) : Prop where
  g0 : W.cell? ⟨w.heap.size, 0, none⟩ = some u0
  g1 : W.cell? ⟨w.heap.size, 1, none⟩ = some u1
  g2 : W.cell? ⟨w.heap.size, 2, none⟩ = some u2
  r : W.heap[w.heap.size + 1]? = some (.cells #[.slice none 0 0, .slice none 0 0] 30 (0, 0))
  l : W.heap[w.heap.size + 1 + 1]? = some (.cells #[v0, v1] 30 (0, 0))
  below : Below w.heap.size w W
theorem RPl.big {w W : World} {u0 u1 u2 v0 v1 : Value} (h : RPl w W u0 u1 u2 v0 v1) : w.heap.size + 3 ≤ W.heap.size := by have := lt_of_block h.l; omega
theorem RPl.grown {w W W' : World} {u0 u1 u2 v0 v1 : Value} (h : RPl w W u0 u1 u2 v0 v1) {row : Option Nat} (hg : W.grownBy W' row) (hr : ∀ k, row = some k → w.heap.size + 3 ≤ k) : RPl w W' u0 u1 u2 v0 v1 := by
  have hs := h.big
  have e : ∀ k, k < w.heap.size + 3 → W'.heap[k]? = W.heap[k]? := fun k hk => hg.block k (by omega) (fun e => by have := hr k e.symm; omega)
  have ec := fun o => World.cell?_of_block (w := W) (w' := W') (a := ⟨w.heap.size, o, none⟩) (e _ (by simp))
  exact ⟨(ec 0).trans h.g0, (ec 1).trans h.g1, (ec 2).trans h.g2, (e _ (by omega)).trans h.r, (e _ (by omega)).trans h.l, h.below.grown hg h.below.size (fun k hk => by have := hr k hk; omega)⟩
theorem RPl.alloc {w W : World} {u0 u1 u2 v0 v1 : Value} (h : RPl w W u0 u1 u2 v0 v1) (o : Obj) : RPl w (W.alloc o) u0 u1 u2 v0 v1 := h.grown (World.grownBy_alloc W o none) (fun k hk => by cases hk)
theorem RPl.set0 {w W : World} {u0 u1 u2 v0 v1 : Value} (h : RPl w W u0 u1 u2 v0 v1) (v : Value) : RPl w (W.setCell ⟨w.heap.size + 1 + 1, 0, none⟩ v) u0 u1 u2 v v1 := by
  have ec := fun o => World.cell?_of_block (w := W) (w' := W.setCell ⟨w.heap.size + 1 + 1, 0, none⟩ v) (a := ⟨w.heap.size, o, none⟩) (Below.heap_setCell W _ v _ (by simp; omega))
  exact ⟨(ec 0).trans h.g0, (ec 1).trans h.g1, (ec 2).trans h.g2, (Below.heap_setCell W _ v _ (by simp)).trans h.r, set_at h.l, h.below.setCell (by simp; omega) v⟩
theorem RPl.set1 {w W : World} {u0 u1 u2 v0 v1 : Value} (h : RPl w W u0 u1 u2 v0 v1) (v : Value) : RPl w (W.setCell ⟨w.heap.size + 1 + 1, 1, none⟩ v) u0 u1 u2 v0 v := by
  have ec := fun o => World.cell?_of_block (w := W) (w' := W.setCell ⟨w.heap.size + 1 + 1, 1, none⟩ v) (a := ⟨w.heap.size, o, none⟩) (Below.heap_setCell W _ v _ (by simp; omega))
  exact ⟨(ec 0).trans h.g0, (ec 1).trans h.g1, (ec 2).trans h.g2, (Below.heap_setCell W _ v _ (by simp)).trans h.r, set_at h.l, h.below.setCell (by simp; omega) v⟩
theorem rpl_made (w : World) (u0 u1 u2 : Value) : RPl w (((w.alloc (.cells #[u0, u1, u2] 26)).alloc (.cells #[.slice none 0 0, .slice none 0 0] 30)).alloc (.cells #[.slice none 0 0, .slice none 0 0] 30)) u0 u1 u2 (.slice none 0 0) (.slice none 0 0) := by
  have c1 := fun j => alloc_cell w #[u0, u1, u2] 26 w.heap.size j rfl
  have B1 := (Below.refl w.heap.size w).alloc (Nat.le_refl _) (.cells #[u0, u1, u2] 26)
  have z1 : (w.alloc (.cells #[u0, u1, u2] 26)).heap.size = w.heap.size + 1 := by simp
  generalize w.alloc (.cells #[u0, u1, u2] 26) = w1 at *
  have B2 := (Below.refl w1.heap.size w1).alloc (Nat.le_refl _) (.cells #[.slice none 0 0, .slice none 0 0] 30)
  have a2 : (w1.alloc (.cells #[.slice none 0 0, .slice none 0 0] 30)).heap[w.heap.size + 1]? = some (.cells #[.slice none 0 0, .slice none 0 0] 30 (0, 0)) := by rw [← z1]; exact Array.getElem?_push_size
  have z2 : (w1.alloc (.cells #[.slice none 0 0, .slice none 0 0] 30)).heap.size = w.heap.size + 2 := by simp; omega
  generalize w1.alloc (.cells #[.slice none 0 0, .slice none 0 0] 30) = w2 at *
  have B3 := (Below.refl w2.heap.size w2).alloc (Nat.le_refl _) (.cells #[.slice none 0 0, .slice none 0 0] 30)
  have ec := fun o => ((bcell B3).1 w.heap.size o (by omega)).trans ((bcell B2).1 w.heap.size o (by omega))
  exact ⟨(ec 0).trans (c1 0), (ec 1).trans (c1 1), (ec 2).trans (c1 2), (B3.block _ (by omega)).trans a2, by rw [← z2]; exact Array.getElem?_push_size, B1.trans ((B2.trans (B3.mono (by omega))).mono (by omega))⟩
theorem fv_zero (w : World) : FunValR w [.slice none 0 0, .int .i64 0] noVal := ⟨none, 0, rfl, .inl rfl, Nat.le_refl _, by unfold maxLen; omega, ⟨by simp [noVal], by simp [noVal]⟩, by simp [noVal]⟩
theorem int_one (w : World) : IntR .i64 w [.int .i64 1] 1 := ⟨rfl, by decide⟩
theorem grows_on {α : Type} {n : Nat} {R : World → List Value → α → Prop} {t : TypeId} {w0 w w' : World} {base : Nat} {v : Value} {xs : List α} (h : Grows n R t w0 base w v xs) {row : Option Nat} (hg : w.grownBy w' row) (hne : ∀ k, row = some k → v.ownBlock ≠ some k) : Grows n R t w0 base w' v xs :=
  h.kept hg (by
    cases hv : v.ownBlock with
    | none => exact .inl rfl
    | some b => exact .inr (fun e => hne b e.symm hv))
theorem rplain_at {g : Sig} {w w' : World} {Av Aw : Option Addr} {cv cw : Nat} (hn1 : g.sorts.length ≤ 1000000) (hn2 : g.funs.length ≤ 1000000) (h1 : Grows 1 (IntR .i64) 3 w (w.heap.size + 3) w' (.slice Av g.sorts.length cv) (List.replicate g.sorts.length 1)) (h2 : Grows 2 FunValR 56 w (w.heap.size + 3) w' (.slice Aw g.funs.length cw) (List.replicate g.funs.length noVal)) (hb : Below w.heap.size w w') :
    PlainPost g w (.returned (.agg #[.slice Av g.sorts.length cv, .slice Aw g.funs.length cw])) w' := by
  have e1 : (plainW g).sizes.length = g.sorts.length := by simp [plainW]
  have e2 : (plainW g).funs.length = g.funs.length := by simp [plainW]
  obtain ⟨A1, c1, s1, s2, s3⟩ := h1.shape
  obtain ⟨A2, c2, t1, t2, t3⟩ := h2.shape
  simp only [List.length_replicate, Value.slice.injEq, true_and] at s1 t1 s2 t2
  obtain ⟨rfl, rfl⟩ := s1
  obtain ⟨rfl, rfl⟩ := t1
  have l1 : (List.replicate g.sorts.length (1 : Int)).length = g.sorts.length := List.length_replicate
  have l2 : (List.replicate g.funs.length noVal).length = g.funs.length := List.length_replicate
  have hq1 : Lies 1 (IntR .i64) w' Av (List.replicate g.sorts.length 1) := Grows.lies (c := cv) (IntR.lasts _) hb (by rw [l1]; exact h1)
  have hq2 : Lies 2 FunValR w' Aw (List.replicate g.funs.length noVal) := Grows.lies (c := cw) FunValR.lasts hb (by rw [l2]; exact h2)
  refine ⟨Av, cv, Aw, cw, by rw [e1, e2], ⟨hq1, hq2, by rw [e1]; exact s2, by rw [e2]; exact t2, s3, t3, by rw [e1]; omega, by rw [e2]; omega⟩, hb⟩
set_option maxRecDepth 100000 in
set_option maxHeartbeats 3200000 in
theorem rplain_any (g : Sig) (hn1 : g.sorts.length ≤ 1000000) (hn2 : g.funs.length ≤ 1000000) (w : World) (A1 A2 A3 : Option Addr) (c1 c2 n3 c3 : Nat) :
    Calls Tryz.prog 19 #[.agg #[.slice A1 g.sorts.length c1, .slice A2 g.funs.length c2, .slice A3 n3 c3]] w (PlainPost g w) := by
  have HP := Lib.hid (fun w' Av Aw cv cw h1 h2 hb => rplain_at (g := g) (w := w) (w' := w') (Av := Av) (Aw := Aw) (cv := cv) (cw := cw) hn1 hn2 h1 h2 hb)
  generalize g.sorts.length = n1 at *
  generalize g.funs.length = n2 at *
  have HM := Lib.hid (rpl_made w (.slice A1 n1 c1) (.slice A2 n2 c2) (.slice A3 n3 c3))
  obtain ⟨i0, hi0, z0, z1, z2⟩ := info_parts info_int
  have I0 := Lib.hid hi0
  have I1 := Lib.hid z0
  have I2 := Lib.hid z1
  have I3 := Lib.hid z2
  clear hi0 z0 z1 z2
  obtain ⟨j0, hi0, z0, z1, z2⟩ := info_parts info_fv
  have J0 := Lib.hid hi0
  have J1 := Lib.hid z0
  have J2 := Lib.hid z1
  have J3 := Lib.hid z2
  clear hi0 z0 z1 z2
  go_enter Tryz.func19, Tryz.ntmps19
  go_wp2_with fail
  generalize ((w.alloc (.cells #[.slice A1 n1 c1, .slice A2 n2 c2, .slice A3 n3 c3] 26)).alloc (.cells #[.slice none 0 0, .slice none 0 0] 30)).alloc (.cells #[.slice none 0 0, .slice none 0 0] 30) = w3 at *
  go_loopw [4] (fun i wr => ∃ (k : Nat) (v : Value), k ≤ n1 ∧ i = .int .i64 k ∧ RPl w wr (.slice A1 n1 c1) (.slice A2 n2 c2) (.slice A3 n3 c3) v (.slice none 0 0) ∧ Grows 1 (IntR .i64) 3 w (w.heap.size + 3) wr v (List.replicate k 1)) (fun i _ => n1 - (intOf i).toNat)
  case atStart => exact ⟨0, .slice none 0 0, by omega, rfl, HM.out, Grows.nil w3⟩
  case round =>
    obtain ⟨k, v, hk, rfl, hp, hg⟩ := hrel
    have HPk := Lib.hid hp
    obtain ⟨vals, ho, hr⟩ := hg.row
    have hvl : vals.length = (List.replicate k (1 : Int)).length * 1 := ho.1
    rw [List.length_replicate] at ho
    obtain ⟨Av, cv, rfl⟩ := shape_of_owns ho
    have HG := Lib.hid hg
    have HO := Lib.hid ho
    have HRr := Lib.hid hr
    obtain ⟨x0, x1, xf0, xf1⟩ := two_cells HPk.out.l
    have g0 := HPk.out.g0
    have hz := HPk.out.big
    clear hp hg ho hr
    by_cases hlt : k < n1
    · have hlt2 : (k : Int) < (n1 : Int) := by omega
      have HC := Lib.hid (Cells.new wr [.int .i64 1] 3 (0, 0))
      go_wp2_with (at_builtin; refine wpList_append_at rfl (.tmp 14) (.tmp 15) _ rfl (w.heap.size + 3) 3 i0 (.int .i64 0) 1 8 Tryz.underlying27 I0.out I1.out I2.out I3.out rfl (by decide) (.slice Av k cv) k vals rfl ?c1 (some ⟨wr.heap.size, 0, none⟩) 1 1 [.int .i64 1] rfl ?c2 ?c3 ?c4 ?c5 ?c6 ?c7 ?c8)
      case c1 => exact HO.out.alloc _
      case c2 => rfl
      case c3 => exact HC.out
      case c4 => simp [Value.oneCell']
      case c5 => unfold maxLen; omega
      case c6 => omega
      case c7 => simp; omega
      intro v' w8 hown hgr hat
      have HP8 := Lib.hid ((HPk.out.alloc (.cells #[.int .i64 1] 3)).grown hgr (fun q hq => (HO.out.lt q hq).1))
      have HG8 := Lib.hid (show Grows 1 (IntR .i64) 3 w (w.heap.size + 3) w8 v' (List.replicate (k + 1) 1) from by
        rw [List.replicate_succ']
        exact Grows.push (vs := [.int .i64 1]) hvl HRr.out (by rw [List.length_replicate]; exact hown) (int_one w) rfl)
      obtain ⟨A', c', rfl⟩ := shape_of_owns hown
      clear hown hgr hat hvl x0 x1 xf0 xf1
      obtain ⟨x0, x1, xf0, xf1⟩ := two_cells HP8.out.l
      go_wp2_with fail
      go_roundw
      case rel => exact ⟨k + 1, _, by omega, by go_num, HP8.out.set0 _, HG8.out.setCell _ (by simp)⟩
      case measure => simp [intOf]; omega
    · obtain rfl : k = n1 := by omega
      go_wp2_with fail
      clear x0 x1 xf0 xf1 g0 hvl
      go_loopw [5] (fun i wr => ∃ (j : Nat) (v : Value), j ≤ n2 ∧ i = .int .i64 j ∧ RPl w wr (.slice A1 k c1) (.slice A2 n2 c2) (.slice A3 n3 c3) (.slice Av k cv) v ∧ Grows 1 (IntR .i64) 3 w (w.heap.size + 3) wr (.slice Av k cv) (List.replicate k 1) ∧ Grows 2 FunValR 56 w (w.heap.size + 3) wr v (List.replicate j noVal) ∧ (∀ b, v.ownBlock = some b → (Value.slice Av k cv).ownBlock ≠ some b)) (fun i _ => n2 - (intOf i).toNat)
      case atStart => exact ⟨0, .slice none 0 0, by omega, rfl, HPk.out, HG.out, Grows.nil _, fun b h => by cases h⟩
      case round =>
        obtain ⟨j, v, hj, rfl, hp, hg1, hg, hne⟩ := hrel
        clear HPk HG HO HRr
        have HPk := Lib.hid hp
        have HG1 := Lib.hid hg1
        have HNe := Lib.hid hne
        obtain ⟨vals, ho, hr⟩ := hg.row
        have hvl : vals.length = (List.replicate j noVal).length * 2 := ho.1
        rw [List.length_replicate] at ho
        obtain ⟨Aw, cw, rfl⟩ := shape_of_owns ho
        have HG := Lib.hid hg
        have HO := Lib.hid ho
        have HRr := Lib.hid hr
        obtain ⟨x0, x1, xf0, xf1⟩ := two_cells HPk.out.l
        have g1 := HPk.out.g1
        have hz := HPk.out.big
        clear hp hg ho hr hg1 hne
        by_cases hlj : j < n2
        · have hlj2 : (j : Int) < (n2 : Int) := by omega
          have HC := Lib.hid (Cells.new wr [.slice none 0 0, .int .i64 0] 56 (0, 0))
          go_wp2_with (at_builtin; refine wpList_append_at rfl (.tmp 26) (.tmp 28) _ rfl (w.heap.size + 3) 56 j0 (.agg #[.slice none 0 0, .int .i64 0]) 2 32 Tryz.underlying28 J0.out J1.out J2.out J3.out rfl (by decide) (.slice Aw j cw) j vals rfl ?e1 (some ⟨wr.heap.size, 0, none⟩) 1 1 [.slice none 0 0, .int .i64 0] rfl ?e2 ?e3 ?e4 ?e5 ?e6 ?e7 ?e8)
          case e1 => exact HO.out.alloc _
          case e2 => rfl
          case e3 => exact HC.out
          case e4 => simp [Value.oneCell']
          case e5 => unfold maxLen; omega
          case e6 => omega
          case e7 => simp; omega
          intro v' w8 hown hgr hat
          have HP8 := Lib.hid ((HPk.out.alloc (.cells #[.slice none 0 0, .int .i64 0] 56)).grown hgr (fun q hq => (HO.out.lt q hq).1))
          have HG8 := Lib.hid (show Grows 2 FunValR 56 w (w.heap.size + 3) w8 v' (List.replicate (j + 1) noVal) from by
            rw [List.replicate_succ']
            exact Grows.push (vs := [.slice none 0 0, .int .i64 0]) hvl HRr.out (by rw [List.length_replicate]; exact hown) (fv_zero w) rfl)
          have HG1' := Lib.hid (grows_on (HG1.out.alloc (.cells #[.slice none 0 0, .int .i64 0] 56)) hgr (fun b hb => HNe.out b hb))
          have HNe' := Lib.hid (show ∀ b, v'.ownBlock = some b → (Value.slice Av k cv).ownBlock ≠ some b from fun b hb => by
            rcases hat with h | h
            · exact HNe.out b (h.symm.trans hb)
            · intro e
              rw [h] at hb
              have h1 := (HG1.out.lt b e).2
              simp at hb
              omega)
          obtain ⟨A', c', rfl⟩ := shape_of_owns hown
          clear hown hgr hat hvl x0 x1 xf0 xf1
          obtain ⟨x0, x1, xf0, xf1⟩ := two_cells HP8.out.l
          go_wp2_with fail
          go_roundw
          case rel => exact ⟨j + 1, _, by omega, by go_num, HP8.out.set1 _, HG1'.out.setCell _ (by simp), HG8.out.setCell _ (by simp), HNe'.out⟩
          case measure => simp [intOf]; omega
        · obtain rfl : j = n2 := by omega
          obtain ⟨y0, y1, yf0, yf1⟩ := two_cells HPk.out.r
          go_wp2_with fail
          change bodyPost _ _ _ _ _ (set2 wr (w.heap.size + 1) (.slice Av k cv) (.slice Aw j cw))
          exact rplain_ret (two_set HPk.out.r _ _) rfl rfl (HP.out _ Av Aw cv cw ((HG1.out.setCell _ (by simp)).setCell _ (by simp)) ((HG.out.setCell _ (by simp)).setCell _ (by simp)) (set2_below HPk.out.below (by omega) _ _))
end Go.Proofs.YtfcmpfaonpnbaaaGreatDoor.Vl
