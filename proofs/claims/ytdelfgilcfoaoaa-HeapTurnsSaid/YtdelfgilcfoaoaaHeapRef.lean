/- The document's heap: how it lies in memory, and the contracts of its functions but Sorted. -/
import Derived.Test.YtdelfgilcfoaoaaHeapPops
namespace Go.Proofs.Ytdelfgilcfoaoaa.Hp
open Go.RowKit

theorem info_bool : (Try.prog.info? 4).map (fun i => (i.zero, i.size, i.bytes)) = some (some (.bool false), 1, 1) := by kernel_rfl
theorem run_make_bool (n : Nat) (hn : n ≤ 1000000) (W : World) : (Instr.makeSlice 55 (.int .i64 n) (.int .i64 n)).run Try.prog W = .ok (.slice (some ⟨W.heap.size, 0, none⟩) n n) (W.alloc (.cells (madeCells #[.bool false] n) 4)) := by
  obtain ⟨i0, hi, hz0, hz1, hz2⟩ := info_parts info_bool
  have h := run_make (P := Try.prog) W 55 4 i0 (.bool false) Try.underlying55 hi hz0 .i64 .i64 n n (by omega) (by omega) (by rw [hz2]; omega) (by omega)
  simp only [Int.toNat_natCast, hz1, Nat.mul_one] at h
  exact h

/-- the document's heap a lies at block G, its activities at ga, who is in at gi -/
structure RMem (w : World) (G ga gi : Nat) (a : Ab) : Prop where
  obj : ∃ ca ci, w.heap[G]? = some (.cells #[.slice (some ⟨ga, 0, none⟩) a.n ca, .slice (some ⟨gi, 0, none⟩) a.n ci] 57 (0, 0))
  act : ∃ cs, w.heap[ga]? = some (.cells cs 3 (0, 0)) ∧ ∀ i, i < a.n → cs[i]? = some (.int .i64 (a.act i))
  inn : ∃ cs, w.heap[gi]? = some (.cells cs 4 (0, 0)) ∧ ∀ i, i < a.n → cs[i]? = some (.bool (a.inn i))
  acts : ∀ i, i < a.n → 0 ≤ a.act i ∧ a.act i ≤ 1099511627776
  small : a.n ≤ 65536

section
variable {w : World} {G ga gi : Nat} {a : Ab}
theorem RMem.act_cell (h : RMem w G ga gi a) {i : Nat} (hi : i < a.n) : w.cell? ⟨ga, i, none⟩ = some (.int .i64 (a.act i)) := by
  obtain ⟨cs, h1, h2⟩ := h.act; rw [cell_of_cells h1]; exact h2 i hi
theorem RMem.inn_cell (h : RMem w G ga gi a) {i : Nat} (hi : i < a.n) : w.cell? ⟨gi, i, none⟩ = some (.bool (a.inn i)) := by
  obtain ⟨cs, h1, h2⟩ := h.inn; rw [cell_of_cells h1]; exact h2 i hi
theorem RMem.act_free (h : RMem w G ga gi a) (i : Nat) : w.frozen? ⟨ga, i, none⟩ = false := by
  obtain ⟨cs, h1, h2⟩ := h.act; exact frozen_of_cells h1 i
theorem RMem.inn_free (h : RMem w G ga gi a) (i : Nat) : w.frozen? ⟨gi, i, none⟩ = false := by
  obtain ⟨cs, h1, h2⟩ := h.inn; exact frozen_of_cells h1 i
theorem RMem.ne1 (h : RMem w G ga gi a) : G ≠ ga := by
  obtain ⟨ca, ci, h1⟩ := h.obj
  obtain ⟨cs, h2, _⟩ := h.act
  rintro rfl; rw [h1] at h2; simp at h2
theorem RMem.ne2 (h : RMem w G ga gi a) : G ≠ gi := by
  obtain ⟨ca, ci, h1⟩ := h.obj
  obtain ⟨cs, h2, _⟩ := h.inn
  rintro rfl; rw [h1] at h2; simp at h2
theorem RMem.ne3 (h : RMem w G ga gi a) : ga ≠ gi := by
  obtain ⟨cs, h1, _⟩ := h.act
  obtain ⟨cs, h2, _⟩ := h.inn
  rintro rfl; rw [h1] at h2; simp at h2
theorem RMem.obj_cells (h : RMem w G ga gi a) : ∃ ca ci, w.cell? ⟨G, 0, none⟩ = some (.slice (some ⟨ga, 0, none⟩) a.n ca) ∧ w.cell? ⟨G, 1, none⟩ = some (.slice (some ⟨gi, 0, none⟩) a.n ci) := by
  obtain ⟨ca, ci, h1⟩ := h.obj
  exact ⟨ca, ci, by rw [cell_of_cells h1]; rfl, by rw [cell_of_cells h1]; rfl⟩
theorem RMem.of_heap {w' : World} (h : RMem w G ga gi a) (e : w'.heap = w.heap) : RMem w' G ga gi a := by
  refine ⟨?_, ?_, ?_, h.acts, h.small⟩
  · rw [e]; exact h.obj
  · rw [e]; exact h.act
  · rw [e]; exact h.inn
theorem RMem.keep {S : Nat → Prop} {w' : World} (h : RMem w G ga gi a) (hk : Keeps S w w') (h1 : ¬ S G) (h2 : ¬ S ga) (h3 : ¬ S gi) : RMem w' G ga gi a := by
  obtain ⟨ca, ci, g1⟩ := h.obj
  obtain ⟨cs, g2, g2'⟩ := h.act
  obtain ⟨cp, g3, g3'⟩ := h.inn
  exact ⟨⟨ca, ci, by rw [hk.block _ (lt_of_block g1) h1]; exact g1⟩, ⟨cs, by rw [hk.block _ (lt_of_block g2) h2]; exact g2, g2'⟩, ⟨cp, by rw [hk.block _ (lt_of_block g3) h3]; exact g3, g3'⟩, h.acts, h.small⟩
theorem cells_updB {cs : Array Value} {n : Nat} {f : Nat → Bool} (h : ∀ i, i < n → cs[i]? = some (.bool (f i))) {i : Nat} (hi : i < n) (v : Bool) :
    ∀ j, j < n → (cs.setIfInBounds i (.bool v))[j]? = some (.bool (upd f i v j)) := by
  intro j hj
  have hsz : i < cs.size := (Array.getElem?_eq_some_iff.1 (h i hi)).1
  rw [Array.getElem?_setIfInBounds]
  by_cases e : i = j
  · subst e; simp [upd_self, hsz]
  · rw [if_neg e, h j hj, upd_other _ _ (Ne.symm e)]
theorem RMem.set_inn (h : RMem w G ga gi a) {i : Nat} (hi : i < a.n) (v : Bool) : RMem (w.setCell ⟨gi, i, none⟩ (.bool v)) G ga gi { a with inn := upd a.inn i v } := by
  obtain ⟨ca, ci, h1⟩ := h.obj
  obtain ⟨cs, h2, h2'⟩ := h.act
  obtain ⟨cp, h3, h3'⟩ := h.inn
  exact ⟨⟨ca, ci, by rw [setCell_far _ _ h.ne2]; exact h1⟩, ⟨cs, by rw [setCell_far _ _ h.ne3]; exact h2, h2'⟩, ⟨_, setCell_at h3 _ _, cells_updB h3' hi v⟩, h.acts, h.small⟩
theorem RMem.set_act (h : RMem w G ga gi a) {i : Nat} (hi : i < a.n) {v : Int} (hv : 0 ≤ v ∧ v ≤ 1099511627776) : RMem (w.setCell ⟨ga, i, none⟩ (.int .i64 v)) G ga gi { a with act := upd a.act i v } := by
  obtain ⟨ca, ci, h1⟩ := h.obj
  obtain ⟨cs, h2, h2'⟩ := h.act
  obtain ⟨cp, h3, h3'⟩ := h.inn
  refine ⟨⟨ca, ci, by rw [setCell_far _ _ h.ne1]; exact h1⟩, ⟨_, setCell_at h2 _ _, cells_upd h2' hi v⟩, ⟨cp, by rw [setCell_far _ _ (Ne.symm h.ne3)]; exact h3, h3'⟩, fun j hj => ?_, h.small⟩
  show 0 ≤ upd a.act i v j ∧ upd a.act i v j ≤ _
  by_cases e : j = i
  · rw [e, upd_self]; exact hv
  · rw [upd_other _ _ e]; exact h.acts j hj
end

def rset (ga gi : Nat) : Nat → Prop := fun k => k = ga ∨ k = gi

set_option maxHeartbeats 800000 in
theorem ris_nil (i : Int) (w : World) :
    Calls Try.prog 37 #[.pointer none, .int .i64 i] w fun e w' => e = .returned (.bool false) ∧ w = w' := by
  go_enter Try.func37, Try.ntmps37
  go_wp2_with fail
  go_ret
  exact ⟨rfl, rfl⟩
set_option maxHeartbeats 800000 in
theorem ris_any {w : World} {G ga gi : Nat} {a : Ab} (h : RMem w G ga gi a) (i : Int) :
    Calls Try.prog 37 #[.pointer (some ⟨G, 0, none⟩), .int .i64 i] w fun e w' => e = .returned (.bool (isB a.n i)) ∧ w = w' := by
  obtain ⟨ca, ci, c0, c1⟩ := h.obj_cells
  generalize a.n = n at *
  clear h
  have HE : ∀ b : Bool, b = isB n i → (Ending.returned (.bool b) = .returned (.bool (isB n i))) := fun b hb => by rw [hb]
  by_cases h0 : 0 ≤ i
  · by_cases h1 : i < (n : Int)
    · have HR := Lib.hid (HE true (isB_iff.2 ⟨h0, h1⟩).symm)
      clear HE
      go_enter Try.func37, Try.ntmps37
      go_wp2_with fail
      go_ret
      exact ⟨HR.out, rfl⟩
    · have HR := Lib.hid (HE false (by rw [eq_comm, Bool.eq_false_iff]; intro hb; exact h1 (isB_iff.1 hb).2))
      have d1 := decide_eq_false h1
      clear HE
      go_enter Try.func37, Try.ntmps37
      go_wp2_with fail
      go_ret
      exact ⟨HR.out, rfl⟩
  · have HR := Lib.hid (HE false (by rw [eq_comm, Bool.eq_false_iff]; intro hb; exact h0 (isB_iff.1 hb).1))
    have d0 := decide_eq_false h0
    clear HE
    go_enter Try.func37, Try.ntmps37
    go_wp2_with fail
    go_ret
    exact ⟨HR.out, rfl⟩

set_option maxHeartbeats 1600000 in
theorem rput_nil (i : Int) (w : World) :
    Calls Try.prog 19 #[.pointer none, .int .i64 i] w fun e w' => e = .returned (.int .i64 3) ∧ w = w' := by
  go_enter Try.func19, Try.ntmps19
  go_wp2_with fail
  go_ret
  exact ⟨rfl, rfl⟩
set_option maxHeartbeats 1600000 in
theorem rput_any {w : World} {G ga gi : Nat} {a : Ab} (h : RMem w G ga gi a) (i : Int) :
    Calls Try.prog 19 #[.pointer (some ⟨G, 0, none⟩), .int .i64 i] w fun e w' => e = .returned (.int .i64 (putE a i)) ∧ RMem w' G ga gi (putA a i) ∧ Keeps (rset ga gi) w w' := by
  have HI := Lib.hid (ris_any h i)
  cases hb : isB a.n i with
  | false =>
    have HE := Lib.hid (show putE a i = 2 ∧ putA a i = a by unfold putE putA; rw [hb]; exact ⟨rfl, rfl⟩)
    rw [hb] at HI
    have HM := Lib.hid h
    clear h hb
    rw [HE.out.1, HE.out.2]
    go_enter Try.func19, Try.ntmps19
    go_wp2_with fail
    refine (HI.out).mono ?_
    rintro e w' ⟨rfl, rfl⟩
    go_wp2_with fail
    go_ret
    exact ⟨rfl, HM.out, Keeps.refl _ _⟩
  | true =>
    have HE := Lib.hid (show putE a i = 0 ∧ putA a i = a.put i.toNat by unfold putE putA; rw [hb]; exact ⟨rfl, rfl⟩)
    obtain ⟨h0, h1⟩ := isB_iff.1 hb
    rw [hb] at HI
    obtain ⟨k, rfl⟩ := Int.eq_ofNat_of_zero_le h0
    have hk : k < a.n := by omega
    have HN := Lib.hid (show RMem (w.setCell ⟨gi, k, none⟩ (.bool true)) G ga gi (a.put k) ∧ Keeps (rset ga gi) w (w.setCell ⟨gi, k, none⟩ (.bool true)) from ⟨h.set_inn hk true, (Keeps.refl _ _).setCell (.inl (.inr rfl)) _⟩)
    have c := h.inn_cell hk
    have f := h.inn_free k
    obtain ⟨ca, ci, c0, c1⟩ := h.obj_cells
    rw [HE.out.1, HE.out.2]
    clear h hb
    go_enter Try.func19, Try.ntmps19
    go_wp2_with fail
    refine (HI.out).mono ?_
    rintro e w' ⟨rfl, rfl⟩
    go_wp2_with fail
    go_ret
    exact ⟨rfl, HN.out.1, HN.out.2⟩

set_option maxHeartbeats 1600000 in
theorem rbump_nil (i d : Int) (w : World) :
    Calls Try.prog 21 #[.pointer none, .int .i64 i, .int .i64 d] w fun e w' => e = .returned (.int .i64 3) ∧ w = w' := by
  go_enter Try.func21, Try.ntmps21
  go_wp2_with fail
  go_ret
  exact ⟨rfl, rfl⟩
set_option maxHeartbeats 3200000 in
theorem rbump_any {w : World} {G ga gi : Nat} {a : Ab} (h : RMem w G ga gi a) (i d : Int) :
    Calls Try.prog 21 #[.pointer (some ⟨G, 0, none⟩), .int .i64 i, .int .i64 d] w fun e w' => e = .returned (.int .i64 (bumpE a i d)) ∧ RMem w' G ga gi (bumpA a i d) ∧ Keeps (rset ga gi) w w' := by
  have HI := Lib.hid (ris_any h i)
  have HM := Lib.hid h
  by_cases hg : bumpG a i d = true
  · have HE := Lib.hid (show bumpE a i d = 0 ∧ bumpA a i d = a.bump i.toNat d by unfold bumpE bumpA; rw [hg]; exact ⟨rfl, rfl⟩)
    rw [HE.out.1, HE.out.2]
    unfold bumpG at hg
    simp only [Bool.and_eq_true, decide_eq_true_eq] at hg
    obtain ⟨⟨hb, hd0⟩, hd1⟩ := hg
    rw [hb] at HI
    obtain ⟨h0, h1⟩ := isB_iff.1 hb
    obtain ⟨k, rfl⟩ := Int.eq_ofNat_of_zero_le h0
    have hk : k < a.n := by omega
    have hbd := h.acts k hk
    obtain ⟨v, hv, hv2⟩ : ∃ v : Int, v = min (a.act k + d) 1099511627776 ∧ ((a.act k + d ≤ 1099511627776 ∧ v = a.act k + d) ∨ (1099511627776 < a.act k + d ∧ v = 1099511627776)) := ⟨_, rfl, by omega⟩
    have HN := Lib.hid (show RMem (w.setCell ⟨ga, k, none⟩ (.int .i64 v)) G ga gi (a.bump k d) ∧ Keeps (rset ga gi) w (w.setCell ⟨ga, k, none⟩ (.int .i64 v)) from
      ⟨by have := h.set_act hk (v := v) (by omega); rw [hv] at this ⊢; exact this, (Keeps.refl _ _).setCell (.inl (.inl rfl)) _⟩)
    have c := h.act_cell hk
    have f := h.act_free k
    obtain ⟨ca, ci, c0, c1⟩ := h.obj_cells
    obtain ⟨hbd0, hbd1⟩ := hbd
    have HV := Lib.hid hv.symm
    clear h hb hv HM HE
    rcases hv2 with ⟨hle, rfl⟩ | ⟨hle, rfl⟩
    all_goals
      go_enter Try.func21, Try.ntmps21
      go_wp2_with fail
      refine (HI.out).mono ?_
      rintro e w' ⟨rfl, rfl⟩
      go_wp2_with fail
      go_region
      go_wp2_with fail
      go_ret
      first | exact ⟨rfl, HN.out.1.of_heap rfl, HN.out.2.drew⟩ | (rw [HV.out]; exact ⟨rfl, HN.out.1.of_heap rfl, HN.out.2.drew⟩)
  · rw [Bool.not_eq_true] at hg
    have HE := Lib.hid (show bumpE a i d = 2 ∧ bumpA a i d = a by unfold bumpE bumpA; rw [hg]; exact ⟨rfl, rfl⟩)
    rw [HE.out.1, HE.out.2]
    clear h
    cases hb : isB a.n i with
    | false =>
      rw [hb] at HI
      clear hb hg HE
      go_enter Try.func21, Try.ntmps21
      go_wp2_with fail
      refine (HI.out).mono ?_
      rintro e w' ⟨rfl, rfl⟩
      go_wp2_with fail
      go_ret
      exact ⟨rfl, HM.out, Keeps.refl _ _⟩
    | true =>
      have hi2 : d < 0 ∨ 1099511627776 < d := by
        unfold bumpG at hg
        rw [hb, Bool.true_and, Bool.and_eq_false_iff, decide_eq_false_iff_not, decide_eq_false_iff_not] at hg
        omega
      rw [hb] at HI
      clear hg hb HE
      rcases hi2 with h1 | h1
      all_goals
        go_enter Try.func21, Try.ntmps21
        go_wp2_with fail
        refine (HI.out).mono ?_
        rintro e w' ⟨rfl, rfl⟩
        go_wp2_with fail
        go_ret
        exact ⟨rfl, HM.out, Keeps.refl _ _⟩

set_option maxHeartbeats 1600000 in
theorem ract_nil (i : Int) (w : World) :
    Calls Try.prog 24 #[.pointer none, .int .i64 i] w fun e w' => e = .returned (.int .i64 0) ∧ w = w' := by
  have HI := Lib.hid (ris_nil i w)
  go_enter Try.func24, Try.ntmps24
  go_wp2_with fail
  refine (HI.out).mono ?_
  rintro e w' ⟨rfl, rfl⟩
  go_wp2_with fail
  go_ret
  exact ⟨rfl, rfl⟩
set_option maxHeartbeats 1600000 in
theorem ract_any {w : World} {G ga gi : Nat} {a : Ab} (h : RMem w G ga gi a) (i : Int) :
    Calls Try.prog 24 #[.pointer (some ⟨G, 0, none⟩), .int .i64 i] w fun e w' => e = .returned (.int .i64 (actA a i)) ∧ w = w' := by
  have HI := Lib.hid (ris_any h i)
  unfold actA
  cases hb : isB a.n i with
  | false =>
    rw [hb] at HI
    clear h hb
    go_enter Try.func24, Try.ntmps24
    go_wp2_with fail
    refine (HI.out).mono ?_
    rintro e w' ⟨rfl, rfl⟩
    go_wp2_with fail
    go_ret
    exact ⟨rfl, rfl⟩
  | true =>
    obtain ⟨h0, h1⟩ := isB_iff.1 hb
    rw [hb] at HI
    obtain ⟨k, rfl⟩ := Int.eq_ofNat_of_zero_le h0
    have hk : k < a.n := by omega
    have c := h.act_cell hk
    obtain ⟨ca, ci, c0, c1⟩ := h.obj_cells
    simp only [if_true, Int.toNat_natCast]
    clear h hb
    go_enter Try.func24, Try.ntmps24
    go_wp2_with fail
    refine (HI.out).mono ?_
    rintro e w' ⟨rfl, rfl⟩
    go_wp2_with fail
    go_ret
    exact ⟨rfl, rfl⟩
set_option maxHeartbeats 1600000 in
theorem rhas_nil (i : Int) (w : World) :
    Calls Try.prog 25 #[.pointer none, .int .i64 i] w fun e w' => e = .returned (.bool false) ∧ w = w' := by
  have HI := Lib.hid (ris_nil i w)
  go_enter Try.func25, Try.ntmps25
  go_wp2_with fail
  refine (HI.out).mono ?_
  rintro e w' ⟨rfl, rfl⟩
  go_wp2_with fail
  go_ret
  exact ⟨rfl, rfl⟩
set_option maxHeartbeats 1600000 in
theorem rhas_any {w : World} {G ga gi : Nat} {a : Ab} (h : RMem w G ga gi a) (i : Int) :
    Calls Try.prog 25 #[.pointer (some ⟨G, 0, none⟩), .int .i64 i] w fun e w' => e = .returned (.bool (hasA a i)) ∧ w = w' := by
  have HI := Lib.hid (ris_any h i)
  unfold hasA
  cases hb : isB a.n i with
  | false =>
    rw [hb] at HI
    clear h hb
    rw [Bool.false_and]
    go_enter Try.func25, Try.ntmps25
    go_wp2_with fail
    refine (HI.out).mono ?_
    rintro e w' ⟨rfl, rfl⟩
    go_wp2_with fail
    go_ret
    exact ⟨rfl, rfl⟩
  | true =>
    obtain ⟨h0, h1⟩ := isB_iff.1 hb
    rw [hb] at HI
    obtain ⟨k, rfl⟩ := Int.eq_ofNat_of_zero_le h0
    have hk : k < a.n := by omega
    have c := h.inn_cell hk
    obtain ⟨ca, ci, c0, c1⟩ := h.obj_cells
    rw [Bool.true_and, Int.toNat_natCast]
    generalize a.inn k = b at *
    clear h hb
    go_enter Try.func25, Try.ntmps25
    go_wp2_with fail
    refine (HI.out).mono ?_
    rintro e w' ⟨rfl, rfl⟩
    go_wp2_with fail
    go_ret
    exact ⟨rfl, rfl⟩
end Go.Proofs.Ytdelfgilcfoaoaa.Hp
