/- The walk of the heap's Put. -/
import Derived.Test.YtdelfgilcfoaoaaHeapPut
namespace Go.Proofs.Ytdelfgilcfoaoaa.Hp
open Go.RowKit

/-- a node put at the end -/
def putSt (s : St) (i : Nat) : St := { s with m := s.m + 1, row := upd s.row s.m i, pos := upd s.pos i s.m }
theorem Fit.put {s : St} (h : Fit s) {i : Nat} (hi : i < s.n) (hp : s.pos i = -1) : Fit (putSt s i) := by
  have hrow : ∀ k, k < s.m → s.row k ≠ i := fun k hk e => by
    have := h.back k hk; rw [e, hp] at this; omega
  refine ⟨h.small, h.acts, ?_, ?_, ?_, ?_⟩
  · intro k hk
    show upd s.row s.m i k < s.n
    have hk' : k < s.m + 1 := hk
    by_cases e : k = s.m
    · rw [e, upd_self]; exact hi
    · rw [upd_other _ _ e]; exact h.node k (by omega)
  · intro k hk
    have hk' : k < s.m + 1 := hk
    show upd s.pos i s.m (upd s.row s.m i k) = k
    by_cases e : k = s.m
    · rw [e, upd_self, upd_self]
    · rw [upd_other _ _ e, upd_other _ _ (hrow k (by omega))]; exact h.back k (by omega)
  · intro x hx
    show upd s.pos i s.m x = -1 ∨ _
    by_cases e : x = i
    · rw [e]
      right
      refine ⟨by show 0 ≤ upd s.pos i s.m i; rw [upd_self]; omega, by show upd s.pos i s.m i < ((s.m + 1 : Nat) : Int); rw [upd_self]; omega, ?_⟩
      show upd s.row s.m i (upd s.pos i s.m i).toNat = i
      rw [upd_self, show ((s.m : Int)).toNat = s.m by omega, upd_self]
    · rw [upd_other _ _ e]
      rcases h.place x hx with h1 | ⟨h1, h2, h3⟩
      · exact .inl h1
      · right
        refine ⟨by show 0 ≤ upd s.pos i s.m x; rw [upd_other _ _ e]; exact h1, by show upd s.pos i s.m x < ((s.m + 1 : Nat) : Int); rw [upd_other _ _ e]; omega, ?_⟩
        show upd s.row s.m i (upd s.pos i s.m x).toNat = x
        rw [upd_other _ _ e, upd_other _ _ (by omega)]; exact h3
  · show s.m + 1 = cnt s.n (fun x => decide (0 ≤ upd s.pos i s.m x))
    rw [h.many]
    refine (cnt_on (i := i) (p := fun x => decide (0 ≤ s.pos x)) hi (by simp [hp]) (by simp [upd_self]) (fun j _ hne => by simp [upd_other _ _ hne])).symm
theorem put_ord {s : St} (h : Ord s) (i : Nat) : OrdBut (putSt s i) s.m := by
  refine ⟨fun c h0 hc hne => ?_, fun h0 c hc0 hc hp => ?_⟩
  · have hc' : c < s.m + 1 := hc
    show ahead s.act (upd s.row s.m i ((c - 1) / 2)) (upd s.row s.m i c)
    rw [upd_other _ _ hne, upd_other _ _ (by omega)]; exact h c h0 (by omega)
  · have hc' : c < s.m + 1 := hc
    omega

/-- the rows as an owned slice -/
def rowList (s : St) : List Value := (List.range s.m).map fun k => .int .i64 (s.row k)
theorem Mem.own {O : Nat → Prop} {w : World} {H ba bt : Nat} {rv : Value} {s : St} (h : Mem O w H ba bt rv s) : w.ownsRow 0 3 1 rv s.m (rowList s) := by
  refine ⟨by simp [rowList], ?_⟩
  rcases h.row with ⟨h1, h2⟩ | ⟨br, cap, cs, h1, h2, h3, h4, h5, h6, _⟩
  · exact .inl ⟨h1, h2⟩
  · refine .inr ⟨br, cap, cs, h1, by omega, h2, h3, h4, by omega, ?_⟩
    apply List.ext_getElem?
    intro j
    rw [List.getElem?_take]
    unfold rowList
    rw [List.getElem?_map]
    by_cases hj : j < s.m
    · rw [if_pos (by omega), List.getElem?_range hj]
      simpa using h6 j hj
    · rw [if_neg (by omega), List.getElem?_eq_none (by simp; omega)]; rfl

/-- what an append and the store of its slice leave -/
theorem Mem.appended {O : Nat → Prop} {w1 w2 : World} {H ba bt : Nat} {rv v' : Value} {s : St} {o : Obj} {i g cap : Nat} (h : Mem O w1 H ba bt rv s) (hown : w2.ownsRow 0 3 1 v' (s.m + 1) (rowList s ++ [.int .i64 i])) (hg : (w1.alloc o).grownBy w2 rv.ownBlock)
    (hat : v'.ownBlock = rv.ownBlock ∨ v'.ownBlock = some (w1.alloc o).heap.size) (hv : v' = .slice (some ⟨g, 0, none⟩) (s.m + 1) cap) :
    Mem (more O w1 w2) (w2.setCell ⟨H, 1, none⟩ v') H ba bt v' { s with m := s.m + 1, row := upd s.row s.m i } ∧ Keeps O w1 (w2.setCell ⟨H, 1, none⟩ v') ∧ ∃ u, w2.cell? ⟨H, 1, none⟩ = some u ∧ w2.frozen? ⟨H, 1, none⟩ = false := by
  have hrO : ∀ k, rv.ownBlock = some k → O k ∧ k ≠ H ∧ k ≠ ba ∧ k ≠ bt := by
    intro k hk
    rcases h.row with ⟨h1, _⟩ | ⟨br, cp, cs, h1, h2, _, _, _, _, h7, h8, h9⟩
    · rw [h1] at hk; simp [Value.ownBlock] at hk
    · rw [h1] at hk; simp [Value.ownBlock] at hk
      subst hk
      obtain ⟨ca, ct, ho⟩ := h.obj
      exact ⟨h9, by rintro rfl; rw [ho] at h2; simp at h2, h7, h8⟩
  have hlt : ∀ k x, w1.heap[k]? = some x → k < w1.heap.size := fun k x hk => lt_of_block hk
  have hsz : (w1.alloc o).heap.size = w1.heap.size + 1 := by simp
  have hold : ∀ k x, w1.heap[k]? = some x → rv.ownBlock ≠ some k → w2.heap[k]? = some x := by
    intro k x hk hne
    rw [hg.block k (by have := hlt k x hk; omega) (fun e => hne e.symm), Below.heap_alloc _ _ _ (hlt k x hk)]; exact hk
  have hgrow : v'.ownBlock = some g := by rw [hv]; rfl
  have hgne : g ≠ H ∧ g ≠ ba ∧ g ≠ bt ∧ (O g ∨ w1.heap.size ≤ g) := by
    rcases hat with h1 | h1
    · rw [hgrow] at h1
      have := hrO g h1.symm
      exact ⟨this.2.1, this.2.2.1, this.2.2.2, .inl this.1⟩
    · rw [hgrow, hsz] at h1
      have e : g = w1.heap.size + 1 := by simpa using h1
      obtain ⟨ca, ct, ho⟩ := h.obj
      obtain ⟨cs, h2, _⟩ := h.act
      obtain ⟨cp, h3, _⟩ := h.pos
      have b1 := hlt _ _ ho
      have b2 := hlt _ _ h2
      have b3 := hlt _ _ h3
      exact ⟨by omega, by omega, by omega, .inr (by omega)⟩
  obtain ⟨g1, g2, g3, g4⟩ := hgne
  obtain ⟨ca, ct, ho⟩ := h.obj
  obtain ⟨cs, h2, h2'⟩ := h.act
  obtain ⟨cp, h3, h3'⟩ := h.pos
  have ho2 := hold H _ ho (fun e => (hrO H e).2.1 rfl)
  have ha2 := hold ba _ h2 (fun e => (hrO ba e).2.2.1 rfl)
  have hp2 := hold bt _ h3 (fun e => (hrO bt e).2.2.2 rfl)
  refine ⟨⟨⟨ca, ct, ?_⟩, ⟨cs, ?_, h2'⟩, ⟨cp, ?_, h3'⟩, ?_, h.ne, more_self h.oH, more_self h.ot⟩, ?_, ?_⟩
  · rw [setCell_at ho2]; rfl
  · rw [setCell_far _ _ (Ne.symm h.neHa)]; exact ha2
  · rw [setCell_far _ _ (Ne.symm h.neHt)]; exact hp2
  · right
    rcases hown.2 with ⟨h4, h5⟩ | ⟨g', cap', cur, h4, _, h5, h6, h7, h8, h9⟩
    · omega
    · have e := hv.symm.trans h4
      simp only [Value.slice.injEq, Option.some.injEq, Addr.mk.injEq, and_true, true_and] at e
      obtain ⟨e1, e2⟩ := e
      subst e1 e2
      refine ⟨g, cap, cur, hv, by rw [setCell_far _ _ g1]; exact h5, h6, h7, by omega, fun k hk => ?_, g2, g3, ?_⟩
      · have hk' : k < s.m + 1 := hk
        have h10 : (rowList s ++ [Value.int .i64 i])[k]? = cur[k]? := by
          rw [← h9, List.getElem?_take, if_pos (by omega)]; simp
        rw [← h10]
        by_cases e : k = s.m
        · rw [e, List.getElem?_append_right (by simp [rowList])]
          simp [rowList, upd_self]
        · rw [List.getElem?_append_left (by simp [rowList]; omega)]
          unfold rowList
          rw [List.getElem?_map, List.getElem?_range (by omega)]
          show _ = some (Value.int .i64 ((upd s.row s.m i k : Nat) : Int))
          rw [upd_other _ _ e]; rfl
      · rcases g4 with g4 | g4
        · exact .inl g4
        · exact .inr ⟨g4, lt_of_block h5⟩
  · exact (((Keeps.refl O w1).alloc o).grown hg (fun k hk => .inl (hrO k hk).1)).setCell (.inl h.oH) _
  · exact ⟨rv, by rw [cell_of_cells ho2]; rfl, frozen_of_cells ho2 1⟩

set_option maxRecDepth 100000 in
set_option maxHeartbeats 3200000 in
theorem put_new {O : Nat → Prop} {w : World} {H ba bt : Nat} {rv : Value} {s : St} (h : Mem O w H ba bt rv s) (hf : Fit s) (ho : Ord s) (i : Nat) (hi : i < s.n) (hp : s.pos i = -1) :
    Calls Try.prog 14 #[.pointer (some ⟨H, 0, none⟩), .int .i64 i] w fun e w' => e = .returned (.int .i64 0) ∧ ∃ rv' s', Mem (more O w w') w' H ba bt rv' s' ∧ Fit s' ∧ Ord s' ∧ Like (putSt s i) s' ∧ Keeps O w w' := by
  have hm1 := hf.le
  have hm2 := hf.small
  have hmn : s.m + 1 ≤ s.n := by have := (hf.put hi hp).le; exact this
  obtain ⟨ca, ct, c0, c1, c2, hfz⟩ := h.obj_cells
  have HI := Lib.hid (is_any h i)
  have HH := Lib.hid (has_any h i hi)
  obtain ⟨A, cp, hrv⟩ : ∃ A cp, rv = .slice A s.m cp := by
    rcases h.row with ⟨h1, h2⟩ | ⟨br, cap, cs, h1, _⟩
    · exact ⟨none, 0, by rw [h1, h2]⟩
    · exact ⟨_, cap, h1⟩
  have hpc := h.pos_cell hi
  have hpf := h.pos_free
  rw [show isB s.n i = true from isB_iff.2 ⟨by omega, by omega⟩] at HI
  rw [hp] at hpc HH
  have hi2 : (i : Int) < (s.n : Int) := by omega
  have H1 := Lib.hid ((h.set_pos hi s.m).of_heap (w' := (w.setCell ⟨bt, i, none⟩ (.int .i64 s.m)).drew) rfl)
  have HK := Lib.hid (show Keeps O w (w.setCell ⟨bt, i, none⟩ (.int .i64 s.m)).drew from ((Keeps.refl _ _).setCell (.inl h.ot) _).drew)
  have HV := Lib.hid hrv
  have HF := Lib.hid (show Fit (putSt s i) ∧ OrdBut (putSt s i) s.m from ⟨hf.put hi hp, put_ord ho i⟩)
  rw [hrv] at c1
  obtain ⟨i0, hi0, hz0, hz1, hz2⟩ := info_parts info_int
  have I1 := Lib.hid hi0
  have I2 := Lib.hid hz0
  have I3 := Lib.hid hz1
  have I4 := Lib.hid hz2
  clear h hf ho hp hrv hi0 hz0 hz1 hz2
  go_enter Try.func14, Try.ntmps14
  go_wp2_with fail
  refine (HI.out).mono ?_
  rintro e w' ⟨rfl, rfl⟩
  go_wp2_with fail
  refine (HH.out).mono ?_
  rintro e w' ⟨rfl, rfl⟩
  go_wp2_with fail
  go_region
  generalize (w.setCell ⟨bt, i, none⟩ (.int .i64 s.m)).drew = w1 at *
  obtain ⟨ca', ct', d0, d1, d2, dfz⟩ := H1.out.obj_cells
  rw [HV.out] at d1
  go_wp2_with (at_builtin; refine wpList_append_own_at _ rfl (.tmp 37) (.tmp 39) _ rfl 0 3 i0 (.int .i64 0) 1 8 Try.underlying42 I1.out I2.out I3.out I4.out rfl (by decide) (.slice A s.m cp) s.m (rowList s) rfl ?c1 ⟨w1.heap.size, 0, none⟩ 1 1 [.int .i64 i] rfl rfl ?c2 ?c3 ?c4 ?c5 ?c6 ?c7)
  case c1 => have := H1.out.own; rw [HV.out] at this; exact this.alloc _
  case c3 => simp [Value.oneCell']
  case c4 => unfold maxLen; omega
  case c5 => omega
  intro v' w2 hown hgr _ hat
  obtain ⟨g, cap', hv, _, _⟩ := owned_open hown (by omega)
  have hM := H1.out.appended (v' := v') (by exact hown) (by rw [HV.out]; exact hgr) (by rw [HV.out]; simpa using hat) hv
  obtain ⟨hM1, hK1, uH, hcH1, hcH2⟩ := hM
  rw [hv] at hM1 hK1
  have HM1 := Lib.hid hM1
  have HK1 := Lib.hid hK1
  clear hM1 hK1 hown hgr hat
  rw [hv]
  clear hv
  go_wp2_with fail
  have HZ2 := Lib.hid (show w2.heap.size ≤ (w2.setCell ⟨H, 1, none⟩ (.slice (some ⟨g, 0, none⟩) (s.m + 1) cap')).heap.size by simp [World.setCell])
  generalize w2.setCell ⟨H, 1, none⟩ (.slice (some ⟨g, 0, none⟩) (s.m + 1) cap') = w3 at *
  have M := HM1.out
  obtain ⟨ca3, ct3, e0, e1, e2, _⟩ := M.obj_cells
  replace e2 : w3.cell? ⟨H, 2, none⟩ = some (.slice (some ⟨bt, 0, none⟩) s.n ct3) := e2
  have ep : w3.cell? ⟨bt, i, none⟩ = some (.int .i64 s.m) := (M.pos_cell (i := i) hi).trans (by show some (Value.int .i64 (upd s.pos i s.m i)) = _; rw [upd_self])
  clear M
  go_still_tail 11, (by kernel_rfl)
  change wpList _ _ _ _ _ w3.drew
  have HM4 := Lib.hid (HM1.out.of_heap (w' := w3.drew) rfl)
  have HK4 := Lib.hid (HK.out.trans_same HK1.out.drew)
  have HZ := Lib.hid (show w2.heap.size ≤ w3.drew.heap.size from HZ2.out)
  generalize w3.drew = w4 at *
  have hF : Fit { n := s.n, act := s.act, m := s.m + 1, row := upd s.row s.m i, pos := upd s.pos i s.m } := HF.out.1
  have hR := rise_any HM4.out hF s.m (by show s.m < s.m + 1; omega) HF.out.2
  have HR := Lib.hid hR
  clear hR hF
  go_wp2_with fail
  refine HR.out.mono ?_
  rintro e w5 ⟨rfl, s', hm5, hf5, ho5, hl5, hk5⟩
  have H5 := Lib.hid (show ∃ rv' s', Mem (more O w w5) w5 H ba bt rv' s' ∧ Fit s' ∧ Ord s' ∧ Like (putSt s i) s' ∧ Keeps O w w5 by
    refine ⟨_, s', hm5.mono (fun k hk => ?_), hf5, ho5, hl5, ?_⟩
    · rcases hk with h1 | ⟨h1, h2⟩
      · exact .inl h1
      · have := HK.out.size
        have := hk5.size
        have := HZ.out
        exact .inr ⟨by omega, by omega⟩
    · refine HK4.out.trans hk5 (fun j hj hs => ?_)
      have hO : more O w1 w2 j := by
        rcases hs with h1 | h1
        · rcases hm5.row with ⟨h2, _⟩ | ⟨br, cp2, cs, h2, _, _, _, _, _, _, _, h9⟩
          · rw [h2] at h1; simp [Value.ownBlock] at h1
          · rw [h2] at h1; simp [Value.ownBlock] at h1; subst h1; exact h9
        · rw [h1]; exact hm5.ot
      rcases hO with h1 | ⟨h1, _⟩
      · exact h1
      · have := HK.out.size; omega)
  clear hm5 hf5 ho5 hl5 hk5
  go_wp2_with fail
  go_ret
  exact ⟨rfl, H5.out⟩
end Go.Proofs.Ytdelfgilcfoaoaa.Hp
