import Derived.Test.YtfcmpfaonpnbaaaGreatDoorMx
import Derived.Laws.Bits64b
/- merged by wip/merge.py from: ValRep -/
/- slices.Repeat of one int; the program's plain world. -/
namespace Go.Proofs.YtfcmpfaonpnbaaaGreatDoor.Vl
open Go.RowKit Go.Proofs.YtfcmpfaonpnbaaaGreatDoor.Dt Go.Proofs.YtfcmpfaonpnbaaaGreatDoor.Sg

theorem mask_small (n : Nat) (hn : n ≤ 1000000) : bits .and .u64 (n : Int) 4294967295 = (n : Int) := by
  have h := bits_and_u64_nat n 4294967295 (by omega) (by omega)
  have e : n &&& 4294967295 = n % 4294967296 := Nat.and_two_pow_sub_one_eq_mod n 32
  rw [e] at h
  rw [show n % 4294967296 = n by omega] at h
  exact h
set_option maxHeartbeats 1600000 in
theorem mul64_any (n : Nat) (hn : n ≤ 1000000) (w : World) :
    Calls Tryz.prog 80 #[.int .u64 1, .int .u64 n] w fun e w' => e = .returned (.tuple #[.int .u64 0, .int .u64 n]) ∧ w = w' := by
  have b0 : bits .and .u64 0 4294967295 = 0 := mask_small 0 (by omega)
  have b1 : bits .and .u64 1 4294967295 = 1 := mask_small 1 (by omega)
  have bn := mask_small n hn
  have d0 : (n : Int) / 4294967296 = 0 := by omega
  go_enter Tryz.func80, Tryz.ntmps80
  go_wp2_with fail
  go_ret2
  exact ⟨rfl, rfl⟩
set_option maxHeartbeats 1600000 in
theorem mul_any (n : Nat) (hn : n ≤ 1000000) (w : World) :
    Calls Tryz.prog 63 #[.int .u64 1, .int .u64 n] w fun e w' => e = .returned (.tuple #[.int .u64 0, .int .u64 n]) ∧ w = w' := by
  have HM := Lib.hid (mul64_any n hn w)
  go_enter Tryz.func63, Tryz.ntmps63
  go_wp2_with fail
  refine HM.out.mono ?_
  rintro e w' ⟨rfl, rfl⟩
  go_wp2_with fail
  go_ret2
  exact ⟨rfl, rfl⟩
/-- so many ones -/
def oneV : Value := .int .i64 1
structure Ones (w : World) (g n k : Nat) : Prop where
  row : ∃ L : List Value, w.heap[g]? = some (.cells L.toArray 3 (0, 0)) ∧ L.length = n ∧ L.take k = List.replicate k oneV
theorem Ones.step {w' : World} {g n k m : Nat} {L : List Value} (hl : L.length = n) (ht : L.take k = List.replicate k oneV) (hk : k + m ≤ n) (h : w'.heap[g]? = some (.cells (splice L k (List.replicate m oneV)).toArray 3 (0, 0))) : Ones w' g n (k + m) := by
  refine ⟨_, h, ?_, ?_⟩
  · rw [length_splice _ _ _ (by simp; omega)]; exact hl
  · unfold splice
    rw [← List.append_assoc, ht, List.replicate_append_replicate, List.take_append_of_le_length (by simp)]
    rw [List.take_of_length_le (by simp)]
theorem Ones.lies {w : World} {g n : Nat} (h : Ones w g n n) : Lies 1 (IntR .i64) w (some ⟨g, 0, none⟩) (List.replicate n 1) := by
  obtain ⟨L, h1, h2, h3⟩ := h.row
  refine lies_of_block h1 (fun i x hx => ⟨[.int .i64 1], rfl, ?_, fun j u hu => ?_⟩)
  · rw [List.getElem?_replicate] at hx
    split at hx
    · cases hx; exact ⟨rfl, by decide⟩
    · cases hx
  · have hi : i < n := by have := (List.getElem?_eq_some_iff.1 hx).1; simpa using this
    have hj : j < 1 := (List.getElem?_eq_some_iff.1 hu).1
    obtain rfl : j = 0 := by omega
    simp at hu
    subst hu
    rw [List.take_of_length_le (by omega)] at h3
    rw [h3]
    simp [hi, oneV]
theorem Ones.slice {w : World} {g n k : Nat} (h : Ones w g n k) (m : Nat) (hm : m ≤ k) : ∀ (j : Nat) (v : Value), (List.replicate m oneV)[j]? = some v → w.cell? ((⟨g, 0, none⟩ : Addr).add j) = some v := by
  obtain ⟨L, h1, h2, h3⟩ := h.row
  intro j v hv
  rw [addr_add0, cell_of_cells h1]
  rw [List.getElem?_replicate] at hv
  split at hv
  · cases hv
    have : (L.take k)[j]? = some oneV := by rw [h3, List.getElem?_replicate, if_pos (by omega)]
    rw [List.getElem?_take, if_pos (by omega)] at this
    simpa using this
  · cases hv
theorem run_make_ints (n : Nat) (hn : n ≤ 1000000) (W : World) : (Instr.makeSlice 27 (.int .i64 n) (.int .i64 n)).run Tryz.prog W = .ok (.slice (some ⟨W.heap.size, 0, none⟩) n n) (W.alloc (.cells (madeCells #[.int .i64 0] n) 3)) := by
  obtain ⟨i0, hi, hz0, hz1, hz2⟩ := info_parts info_int
  have h := run_make (P := Tryz.prog) W 27 3 i0 (.int .i64 0) Tryz.underlying27 hi hz0 .i64 .i64 n n (by omega) (by omega) (by rw [hz2]; omega) (by omega)
  simp only [Int.toNat_natCast, hz1, Nat.mul_one] at h
  exact h
theorem ones_made (w : World) (n : Nat) : Ones (w.alloc (.cells (madeCells #[.int .i64 0] n) 3)) w.heap.size n 0 :=
  ⟨(madeCells #[.int .i64 0] n).toList, by rw [Array.toArray_toList]; exact Array.getElem?_push_size, by simp [madeCells], rfl⟩
set_option maxRecDepth 100000 in
set_option maxHeartbeats 800000 in
theorem repeat_any (n : Nat) (hn : n ≤ 1000000) (w : World) (b : Nat) (hc : w.cell? ⟨b, 0, none⟩ = some (.int .i64 1)) (hb : b < w.heap.size) :
    Calls Tryz.prog 41 #[.slice (some ⟨b, 0, none⟩) 1 1, .int .i64 n] w fun e w' => (∃ g, e = .returned (.slice (some ⟨g, 0, none⟩) n n) ∧ Ones w' g n n) ∧ Below w.heap.size w w' := by
  have HM := Lib.hid (mul_any n hn w)
  have hmk := run_make_ints n hn w
  have HO := Lib.hid (ones_made w n)
  have HB := Lib.hid ((Below.refl w.heap.size w).alloc (Nat.le_refl _) (.cells (madeCells #[.int .i64 0] n) 3))
  have HC := Lib.hid (((bcell HB.out).1 b 0 hb).trans hc)
  have HSz := Lib.hid (show (Tryz.prog.info? 3).map (·.size) = some 1 by kernel_rfl)
  have hn2 : (n : Int) ≤ 1000000 := by omega
  go_enter Tryz.func41, Tryz.ntmps41
  go_wp2_with fail
  refine HM.out.mono ?_
  rintro e w' ⟨rfl, rfl⟩
  go_upto_region 7 with fail
  generalize w.alloc (.cells (madeCells #[.int .i64 0] n) 3) = w1 at *
  generalize hgb : w.heap.size = gb at *
  have HGb := Lib.hid hgb
  clear hgb hmk HM
  obtain ⟨L, hL1, hL2, hL3⟩ := HO.out.row
  have HL := Lib.hid (And.intro hL1 (And.intro hL2 hL3))
  clear hL1 hL2 hL3
  by_cases hz : n = 0
  · subst hz
    have HOn := Lib.hid (show Ones w1 gb 0 0 from HO.out)
    go_wp2_with (refine wpList_copy_nothing rfl (.tmp 31) (.tmp 32) 27 27 rfl 3 Tryz.underlying27 HSz.out (some ⟨gb, 0, none⟩) (some ⟨b, 0, none⟩) 0 0 1 1 rfl rfl rfl ?_)
    go_loopw [8] (fun v wr => v = .int .i64 0 ∧ w1 = wr) (fun _ _ => 0)
    case atStart => exact ⟨rfl, rfl⟩
    case round =>
      obtain ⟨rfl, rfl⟩ := hrel
      go_wp2_with fail
      go_ret
      exact ⟨⟨gb, rfl, HOn.out⟩, by have h := HB.out; rw [← HGb.out] at h; exact h⟩
  · have hn1 : 1 ≤ n := by omega
    have hmin : Nat.min 1 n = 1 := Nat.min_eq_left hn1
    have HC1 := Lib.hid (show ∀ (j : Nat) (v : Value), [oneV][j]? = some v → w1.cell? ((⟨b, 0, none⟩ : Addr).add j) = some v from fun j v hv => by
      have hj : j < 1 := (List.getElem?_eq_some_iff.1 hv).1
      obtain rfl : j = 0 := by omega
      simp at hv
      subst hv
      rw [addr_add0]
      exact HC.out)
    go_wp2_with (refine wpList_copy_splice rfl (.tmp 31) (.tmp 32) 27 27 rfl 3 Tryz.underlying27 HSz.out (some ⟨gb, 0, none⟩) (some ⟨b, 0, none⟩) n n 1 1 rfl rfl gb 0 L 3 HL.out.1 [oneV] hmin.symm (fun _ => ⟨rfl, _, rfl, HC1.out⟩) (by have := HL.out.2.1; simp; omega) (by intro v hv; rw [List.mem_singleton] at hv; rw [hv]; rfl) gb w HB.out (Nat.le_refl _) ?_)
    intro w2 hg2 hb2
    have HO2 := Lib.hid (show Ones w2 gb n 1 from Ones.step (k := 0) (m := 1) HL.out.2.1 HL.out.2.2 (by omega) hg2.out)
    have HB2 := Lib.hid hb2
    clear hg2 hb2 HO HB HL HC
    go_wp2_with fail
    go_loopw [8] (fun v wr => ∃ k : Nat, 1 ≤ k ∧ k ≤ n ∧ v = .int .i64 k ∧ Ones wr gb n k ∧ Below gb w wr) (fun v _ => n - (intOf v).toNat)
    case atStart => exact ⟨1, by omega, by omega, rfl, HO2.out, HB2.out⟩
    case round =>
      obtain ⟨k, hk1, hk, rfl, hO, hB⟩ := hrel
      have HO := Lib.hid hO
      have HB := Lib.hid hB
      obtain ⟨L, hL1, hL2, hL3⟩ := hO.row
      have HLd := Lib.hid (show wr.drew.heap[gb]? = some (.cells L.toArray 3 (0, 0)) from hL1)
      have HL := Lib.hid (And.intro hL1 (And.intro hL2 hL3))
      have HBd := Lib.hid HB.out.drew
      have HSl := Lib.hid (fun m (hm : m ≤ k) => (show Ones wr.drew gb n k from ⟨hO.row⟩).slice m hm)
      clear hO hB hL1 hL2 hL3
      by_cases hlt : k < n
      · have hlt2 : (k : Int) < (n : Int) := by omega
        go_upto_region 9 with fail
        have hnk : ¬ n = k := by omega
        obtain ⟨m, hm⟩ : ∃ m, m = Nat.min k (n - k) := ⟨_, rfl⟩
        have HMn := Lib.hid hm
        have hmk : m ≤ k := by rw [hm]; exact Nat.min_le_left _ _
        have hmn : k + m ≤ n := by have : m ≤ n - k := by rw [hm]; exact Nat.min_le_right _ _
                                   omega
        have hm0 : 1 ≤ m := by rw [hm]; exact Nat.le_min.2 ⟨hk1, by omega⟩
        clear hm
        have HRun := Lib.hid (run_copy_row (P := Tryz.prog) wr.drew 27 27 3 3 gb k (n - k) (n - k) ⟨gb, 0, none⟩ k n L.toArray 3 (List.replicate m oneV) Tryz.underlying27 HSz.out HLd.out (by rw [List.length_replicate]; exact HMn.out) (HSl.out m hmk) (by have := HL.out.2.1; rw [List.length_replicate]; simp; omega) (by intro v hv; rw [List.mem_replicate] at hv; rw [hv.2]; rfl))
        have HO4 := Lib.hid (show Ones (wr.drew.setRow gb (L.toArray.toList.take k ++ List.replicate m oneV ++ L.toArray.toList.drop (k + (List.replicate m oneV).length)).toArray) gb n (k + m) from by
          refine Ones.step HL.out.2.1 HL.out.2.2 hmn ?_
          have h := setRow_heap wr.drew gb _ (L.toArray.toList.take k ++ List.replicate m oneV ++ L.toArray.toList.drop (k + (List.replicate m oneV).length)).toArray 3 (0, 0) HLd.out
          rw [h]
          unfold splice
          simp)
        have HB4 := Lib.hid (below_setRow HBd.out (Nat.le_refl _) (L.toArray.toList.take k ++ List.replicate m oneV ++ L.toArray.toList.drop (k + (List.replicate m oneV).length)).toArray)
        rw [List.length_replicate] at HRun HO4 HB4
        generalize wr.drew.setRow gb (L.toArray.toList.take k ++ List.replicate m oneV ++ L.toArray.toList.drop (k + m)).toArray = w4 at *
        have hsum : IntKind.i64.wrap ((k : Int) + (m : Int)) = (k : Int) + (m : Int) := IntWalk.i64_in _ (by omega)
        refine wp_region_held_drew (S := fun _ => True) (by kernel_rfl) (trivial) (fun hHeld => ?_)
        refine wpAnyH_take (i := 0) (oi := Oper.mk _ _ _ _ _ _) (v := ?_) rfl (by kernel_rfl) (by kernel_rfl) (by kernel_rfl) (fun _ _ _ h => h) (Or.inl ⟨by rfl, ?_⟩) (by assumption) ?_
        rotate_left
        · (intro w hSw; (try dsimp only at hSw); go_simp; try with_reducible rfl)
        try simp only [Act.put, List.setIfInBounds_toArray, List.set_cons_zero, List.set_cons_succ]
        refine wpAnyH_take (i := 1) (oi := Oper.mk _ _ _ _ _ _) (v := ?_) rfl (by kernel_rfl) (by kernel_rfl) (by kernel_rfl) (fun _ _ _ h => h) (Or.inl ⟨by rfl, ?_⟩) (by assumption) ?_
        rotate_left
        · (intro w hSw; (try dsimp only at hSw); go_simp; try with_reducible rfl)
        try simp only [Act.put, List.setIfInBounds_toArray, List.set_cons_zero, List.set_cons_succ]
        refine wpAnyH_take (i := 2) (oi := Oper.mk _ _ _ _ _ _) (v := ?_) rfl (by kernel_rfl) (by kernel_rfl) (by kernel_rfl) (fun _ _ _ h => h) (Or.inl ⟨by rfl, ?_⟩) (by assumption) ?_
        rotate_left
        · (intro w hSw; (try dsimp only at hSw); go_simp; try with_reducible rfl)
        try simp only [Act.put, List.setIfInBounds_toArray, List.set_cons_zero, List.set_cons_succ]
        refine wpAnyH_take (i := 3) (oi := Oper.mk _ _ _ _ _ _) (v := ?_) rfl (by kernel_rfl) (by kernel_rfl) (by kernel_rfl) (fun _ _ _ h => h) (Or.inl ⟨by rfl, ?_⟩) (by assumption) ?_
        rotate_left
        · (intro w hSw; (try dsimp only at hSw); go_simp; try with_reducible rfl)
        try simp only [Act.put, List.setIfInBounds_toArray, List.set_cons_zero, List.set_cons_succ]
        refine wpAnyH_take (i := 4) (oi := Oper.mk _ _ _ _ _ _) (v := ?_) rfl (by kernel_rfl) (by kernel_rfl) (by kernel_rfl) (fun _ _ _ h => h) (Or.inl ⟨by rfl, ?_⟩) (by assumption) ?_
        rotate_left
        · (intro w hSw; (try dsimp only at hSw); go_simp; try with_reducible rfl)
        try simp only [Act.put, List.setIfInBounds_toArray, List.set_cons_zero, List.set_cons_succ]
        refine wpAnyH_take (i := 5) (oi := Oper.mk _ _ _ _ _ _) (v := ?_) rfl (by kernel_rfl) (by kernel_rfl) (by kernel_rfl) (fun _ _ _ h => h) (Or.inl ⟨by rfl, ?_⟩) (by assumption) ?_
        rotate_left
        · (intro w hSw; (try dsimp only at hSw); go_simp; try with_reducible rfl)
        try simp only [Act.put, List.setIfInBounds_toArray, List.set_cons_zero, List.set_cons_succ]
        refine wpAnyH_take (i := 6) (oi := Oper.mk _ _ _ _ _ _) (v := ?_) rfl (by kernel_rfl) (by kernel_rfl) (by kernel_rfl) (fun _ _ _ h => h) (Or.inl ⟨by rfl, ?_⟩) (by assumption) ?_
        rotate_left
        · (intro w hSw; (try dsimp only at hSw); go_simp; try with_reducible rfl)
        try simp only [Act.put, List.setIfInBounds_toArray, List.set_cons_zero, List.set_cons_succ]
        refine wpAnyH_ready (rs := [7]) (by kernel_rfl) (by simp) ?_
        refine AllReadyH.cons (o := Oper.mk _ _ _ _ _ _) rfl (fun K hK => ?_) AllReadyH.nil
        go_simp
        rw [HRun.out]
        simp only [Result.andThen_ok, Oper.upon_value, goInt]
        refine hK.out _ _ trivial (fun _ => ?_)
        clear hK K
        try simp only [Act.put, List.setIfInBounds_toArray, List.set_cons_zero, List.set_cons_succ]
        refine wpAnyH_take (i := 8) (oi := Oper.mk _ _ _ _ _ _) (v := ?_) rfl (by kernel_rfl) (by kernel_rfl) (by kernel_rfl) (fun _ _ _ h => h) (Or.inl ⟨by rfl, ?_⟩) (by assumption) ?_
        rotate_left
        · (intro w hSw; (try dsimp only at hSw); go_simp; try with_reducible rfl)
        try simp only [Act.put, List.setIfInBounds_toArray, List.set_cons_zero, List.set_cons_succ]
        refine wpAnyH_take (i := 9) (oi := Oper.mk _ _ _ _ _ _) (v := ?_) rfl (by kernel_rfl) (by kernel_rfl) (by kernel_rfl) (fun _ _ _ h => h) (Or.inl ⟨by rfl, ?_⟩) (by assumption) ?_
        rotate_left
        · (intro w hSw; (try dsimp only at hSw); go_simp; try with_reducible rfl)
        try simp only [Act.put, List.setIfInBounds_toArray, List.set_cons_zero, List.set_cons_succ]
        refine wpAnyH_done (by kernel_rfl) ?_ _
        go_wp2_with fail
        go_roundw
        case rel => exact ⟨k + m, by omega, hmn, by go_num, HO4.out, HB4.out⟩
        case measure => simp [intOf]; omega
      · obtain rfl : k = n := by omega
        go_wp2_with fail
        go_ret
        exact ⟨⟨gb, rfl, HO.out⟩, by have h := HB.out; rw [← HGb.out] at h; exact h⟩

/-- what the plain world's making leaves -/
def PlainPost (g : Sig) (w : World) (e : Ending) (w' : World) : Prop :=
  ∃ B1 d1 B2 d2, e = .returned (.agg #[.slice B1 (plainW g).sizes.length d1, .slice B2 (plainW g).funs.length d2]) ∧ WrldAt w' B1 d1 B2 d2 (plainW g) ∧ Below w.heap.size w w'
theorem made_fv (n i j : Nat) (u : Value) (hi : i < n) (h : [Value.slice none 0 0, .int .i64 0][j]? = some u) : (madeCells #[.slice none 0 0, .int .i64 0] (n * 2))[i * 2 + j]? = some u := by
  have hj : j < 2 := (List.getElem?_eq_some_iff.1 h).1
  unfold madeCells
  rw [Array.getElem?_map, Array.getElem?_eq_getElem (by simp; omega)]
  simp
  have : j = 0 ∨ j = 1 := by omega
  rcases this with rfl | rfl
  · simp at h; subst h
    simp
  · simp at h; subst h
    rfl
theorem plain_at {g : Sig} {w w' : World} {gs gf : Nat} (hn1 : g.sorts.length ≤ 1000000) (hn2 : g.funs.length ≤ 1000000) (h1 : Ones w' gs g.sorts.length g.sorts.length) (h2 : w'.heap[gf]? = some (.cells (madeCells #[.slice none 0 0, .int .i64 0] (g.funs.length * 2)) 56 (0, 0))) (hb : Below w.heap.size w w') :
    PlainPost g w (.returned (.agg #[.slice (some ⟨gs, 0, none⟩) g.sorts.length g.sorts.length, .slice (some ⟨gf, 0, none⟩) g.funs.length g.funs.length])) w' := by
  have e1 : (plainW g).sizes.length = g.sorts.length := by simp [plainW]
  have e2 : (plainW g).funs.length = g.funs.length := by simp [plainW]
  refine ⟨_, _, _, _, by rw [e1, e2], ⟨h1.lies, lies_of_block h2 (fun i y hy => ?_), by rw [e1]; exact Nat.le_refl _, by rw [e2]; exact Nat.le_refl _, by unfold maxLen; omega, by unfold maxLen; omega, by rw [e1]; omega, by rw [e2]; omega⟩, hb⟩
  have hi : i < g.funs.length := by have := (List.getElem?_eq_some_iff.1 hy).1; rw [e2] at this; exact this
  have hyy : y = noVal := by
    simp only [plainW, List.getElem?_replicate, if_pos hi] at hy
    exact (Option.some.inj hy).symm
  subst hyy
  exact ⟨[.slice none 0 0, .int .i64 0], rfl, ⟨none, 0, rfl, .inl rfl, Nat.le_refl _, by simp [maxLen], by exact ⟨by simp [noVal], by simp [noVal]⟩, by simp [noVal]⟩, fun j u hu => made_fv _ i j u hi hu⟩
theorem run_make_fvs (n : Nat) (hn : n ≤ 1000000) (W : World) : (Instr.makeSlice 28 (.int .i64 n) (.int .i64 n)).run Tryz.prog W = .ok (.slice (some ⟨W.heap.size, 0, none⟩) n n) (W.alloc (.cells (madeCells #[.slice none 0 0, .int .i64 0] (n * 2)) 56)) := by
  obtain ⟨i0, hi, hz0, hz1, hz2⟩ := info_parts info_fv
  have h := run_make (P := Tryz.prog) W 28 56 i0 (.agg #[.slice none 0 0, .int .i64 0]) Tryz.underlying28 hi hz0 .i64 .i64 n n (by omega) (by omega) (by rw [hz2]; omega) (by omega)
  simp only [Int.toNat_natCast, hz1] at h
  exact h
theorem Ones.below {w w' : World} {g n k : Nat} (h : Ones w g n k) (hb : Below w.heap.size w w') : Ones w' g n k := by
  obtain ⟨L, h1, h2, h3⟩ := h.row
  exact ⟨L, (hb.block _ (lt_of_block h1)).trans h1, h2, h3⟩
/-- while the plain world is made -/
structure PW (w : World) (u0 u1 u2 : Value) (W : World) : Prop where
  below : Below w.heap.size w W
  gw : GW W w.heap.size (w.heap.size + 1) u0 u1 u2 (.slice none 0 0) (.slice none 0 0)
  res : W.heap[w.heap.size + 1]? = some (.cells #[.slice none 0 0, .slice none 0 0] 30 (0, 0))
theorem PW.on {w W W' : World} {u0 u1 u2 : Value} (h : PW w u0 u1 u2 W) (hb : Below W.heap.size W W') : PW w u0 u1 u2 W' := ⟨h.below.trans (hb.mono h.below.size), h.gw.on hb, (hb.block _ (lt_of_block h.res)).trans h.res⟩
theorem ne_blocks {w : World} {a b : Nat} {c d : Array Value} {t t' : TypeId} {f f' : Nat × Nat} (h1 : w.heap[a]? = some (.cells c t f)) (h2 : w.heap[b]? = some (.cells d t' f')) (hne : t ≠ t') : a ≠ b := fun e => by
  subst e
  rw [h1] at h2
  cases h2
  exact hne rfl
theorem ones_set {w : World} {g n k b : Nat} {x y : Value} (h : Ones w g n k) (hb : w.heap[b]? = some (.cells #[x, y] 30 (0, 0))) (v0 v1 : Value) : Ones (set2 w b v0 v1) g n k := by
  obtain ⟨L, h1, h2, h3⟩ := h.row
  exact ⟨L, two_keep h1 (ne_blocks h1 hb (by decide)), h2, h3⟩
theorem plain_s {w W : World} {u0 u1 u2 : Value} (h : PW w u0 u1 u2 W) (v0 v1 : Value) : (set2 W (w.heap.size + 1) v0 v1).cell? ⟨w.heap.size, 0, none⟩ = some u0 ∧ (set2 W (w.heap.size + 1) v0 v1).cell? ⟨w.heap.size, 1, none⟩ = some u1 := by
  have e : ∀ o, (set2 W (w.heap.size + 1) v0 v1).cell? ⟨w.heap.size, o, none⟩ = W.cell? ⟨w.heap.size, o, none⟩ := fun o => World.cell?_of_block (w := W) ((Below.heap_setCell _ ⟨w.heap.size + 1, 1, none⟩ v1 w.heap.size (by show w.heap.size ≠ w.heap.size + 1; omega)).trans (Below.heap_setCell W ⟨w.heap.size + 1, 0, none⟩ v0 w.heap.size (by show w.heap.size ≠ w.heap.size + 1; omega)))
  exact ⟨(e 0).trans h.gw.g0, (e 1).trans h.gw.g1⟩
theorem plain_ret {w : World} {b : Nat} {r0 r1 : Value} {act : Act} {t : TypeId} {R : Ending → World → Prop} (hb : w.heap[b]? = some (.cells #[r0, r1] t (0, 0))) (h2 : act.tmps[2]? = some (.pointer (some ⟨b, 0, none⟩))) (hd : act.defers = []) (hR : R (.returned (.agg #[r0, r1])) w) :
    bodyPost Tryz.prog Tryz.f18 R .ret act w := by
  obtain ⟨y0, y1, _⟩ := two_cells hb
  refine bodyPost_ret (v := .agg #[r0, r1]) ?_ hd hR
  simp [results, Tryz.results18, go_sem, y0, y1, h2]
set_option maxRecDepth 100000 in
set_option maxHeartbeats 3200000 in
theorem plain_any (g : Sig) (hn1 : g.sorts.length ≤ 1000000) (hn2 : g.funs.length ≤ 1000000) (w : World) (A1 A2 A3 : Option Addr) (c1 c2 n3 c3 : Nat) :
    Calls Tryz.prog 18 #[.agg #[.slice A1 g.sorts.length c1, .slice A2 g.funs.length c2, .slice A3 n3 c3]] w (PlainPost g w) := by
  have HP := Lib.hid (fun w' gs gf h1 h2 hb => plain_at (g := g) (w := w) (w' := w') (gs := gs) (gf := gf) hn1 hn2 h1 h2 hb)
  generalize g.sorts.length = n1 at *
  generalize g.funs.length = n2 at *
  have HRp := Lib.hid (fun W b hc hb => repeat_any n1 hn1 W b hc hb)
  have hmk := run_make_fvs n2 hn2
  have HB2 := Lib.hid (((Below.refl w.heap.size w).alloc (Nat.le_refl _) (.cells #[.slice A1 n1 c1, .slice A2 n2 c2, .slice A3 n3 c3] 26)).alloc (by simp) (.cells #[.slice none 0 0, .slice none 0 0] 30))
  have HP2 := Lib.hid (show PW w (.slice A1 n1 c1) (.slice A2 n2 c2) (.slice A3 n3 c3) _ from ⟨HB2.out, gw_made w (.slice A1 n1 c1) (.slice A2 n2 c2) (.slice A3 n3 c3) (.slice none 0 0) (.slice none 0 0) 26 30, (blk_mid w (.cells #[.slice A1 n1 c1, .slice A2 n2 c2, .slice A3 n3 c3] 26) (.cells #[.slice none 0 0, .slice none 0 0] 30) (.map #[] 0)).1.symm.trans (Below.heap_alloc _ _ _ (by simp)) |>.symm⟩)
  go_enter Tryz.func18, Tryz.ntmps18
  go_wp2_with fail
  generalize (w.alloc (.cells #[.slice A1 n1 c1, .slice A2 n2 c2, .slice A3 n3 c3] 26)).alloc (.cells #[.slice none 0 0, .slice none 0 0] 30) = w2 at *
  have P1 := Lib.hid (HP2.out.on (Below.refl w2.heap.size w2).drew)
  refine wp_region_held_drew (S := fun W => W.cell? ⟨w.heap.size, 0, none⟩ = some (.slice A1 n1 c1) ∧ W.cell? ⟨w.heap.size, 1, none⟩ = some (.slice A2 n2 c2)) (by kernel_rfl) (⟨P1.out.gw.g0, P1.out.gw.g1⟩) (fun hHeld => ?_)
  generalize hw1 : w2.drew = w1 at *
  clear hw1
  refine wpAnyH_take (i := 1) (oi := Oper.mk _ _ _ _ _ _) (v := ?_) rfl (by kernel_rfl) (by kernel_rfl) (by kernel_rfl) (fun _ _ _ h => h) (Or.inl ⟨by rfl, ?_⟩) (by assumption) ?_
  rotate_left
  · (intro w hSw; (try dsimp only at hSw); go_simp; try with_reducible rfl)
  try simp only [Act.put, List.setIfInBounds_toArray, List.set_cons_zero, List.set_cons_succ]
  refine wpAnyH_take (i := 2) (oi := Oper.mk _ _ _ _ _ _) (v := ?_) rfl (by kernel_rfl) (by kernel_rfl) (by kernel_rfl) (fun _ _ _ h => h) (Or.inl ⟨by rfl, ?_⟩) (by assumption) ?_
  rotate_left
  · (intro w hSw; (try dsimp only at hSw); go_simp; try with_reducible rfl)
  try simp only [Act.put, List.setIfInBounds_toArray, List.set_cons_zero, List.set_cons_succ]
  refine wpAnyH_take (i := 3) (oi := Oper.mk _ _ _ _ _ _) (v := ?_) rfl (by kernel_rfl) (by kernel_rfl) (by kernel_rfl) (fun _ _ _ h => h) (Or.inl ⟨by rfl, ?_⟩) (by assumption) ?_
  rotate_left
  · (intro w hSw; (try dsimp only at hSw); go_simp; try with_reducible rfl)
  try simp only [Act.put, List.setIfInBounds_toArray, List.set_cons_zero, List.set_cons_succ]
  refine wpAnyH_take (i := 5) (oi := Oper.mk _ _ _ _ _ _) (v := ?_) rfl (by kernel_rfl) (by kernel_rfl) (by kernel_rfl) (fun _ _ _ h => h) (Or.inl ⟨by rfl, ?_⟩) (by assumption) ?_
  rotate_left
  · (intro w hSw; (try dsimp only at hSw); go_simp; try with_reducible rfl)
  try simp only [Act.put, List.setIfInBounds_toArray, List.set_cons_zero, List.set_cons_succ]
  refine wpAnyH_take (i := 6) (oi := Oper.mk _ _ _ _ _ _) (v := ?_) rfl (by kernel_rfl) (by kernel_rfl) (by kernel_rfl) (fun _ _ _ h => h) (Or.inl ⟨by rfl, ?_⟩) (by assumption) ?_
  rotate_left
  · (intro w hSw; (try dsimp only at hSw); go_simp; try with_reducible rfl)
  try simp only [Act.put, List.setIfInBounds_toArray, List.set_cons_zero, List.set_cons_succ]
  refine wpAnyH_take (i := 7) (oi := Oper.mk _ _ _ _ _ _) (v := ?_) rfl (by kernel_rfl) (by kernel_rfl) (by kernel_rfl) (fun _ _ _ h => h) (Or.inl ⟨by rfl, ?_⟩) (by assumption) ?_
  rotate_left
  · (intro w hSw; (try dsimp only at hSw); go_simp; try with_reducible rfl)
  try simp only [Act.put, List.setIfInBounds_toArray, List.set_cons_zero, List.set_cons_succ]
  refine wpAnyH_ready (rs := [0, 8]) (by kernel_rfl) (by simp) ?_
  refine AllReadyH.cons (o := Oper.mk _ _ _ _ _ _) rfl (fun K hK => ?_) (AllReadyH.cons (o := Oper.mk _ _ _ _ _ _) rfl (fun K hK => ?_) AllReadyH.nil)
  · go_simp
    have P3 := Lib.hid (P1.out.on ((Below.refl _ _).alloc (Nat.le_refl _) (.cells #[.int .i64 1] 3)))
    have HC3 := Lib.hid (show (w1.alloc (.cells #[.int .i64 1] 3)).cell? ⟨w1.heap.size, 0, none⟩ = some (.int .i64 1) by rw [World.cell?_alloc_mark]; rfl)
    have HL3 := Lib.hid (show w1.heap.size < (w1.alloc (.cells #[.int .i64 1] 3)).heap.size by simp)
    refine hK.out _ _ (⟨P3.out.gw.g0, P3.out.gw.g1⟩) (fun hHeld => ?_)
    clear hK K
    try simp only [Act.put, List.setIfInBounds_toArray, List.set_cons_zero, List.set_cons_succ]
    generalize hb1 : w1.heap.size = b1 at *
    clear hb1
    generalize hw3 : w1.alloc (.cells #[.int .i64 1] 3) = w3 at *
    clear hw3
    refine wpAnyH_ready (rs := [4, 8]) (by kernel_rfl) (by simp) ?_
    refine AllReadyH.cons (o := Oper.mk _ _ _ _ _ _) rfl (fun K hK => ?_) (AllReadyH.cons (o := Oper.mk _ _ _ _ _ _) rfl (fun K hK => ?_) AllReadyH.nil)
    · go_simp
      go_wp2_with (go_at_call 41; refine (HRp.out _ _ ?_ ?_).mono ?_; exact HC3.out; exact HL3.out; rintro e w4 ⟨⟨gs, rfl, hon⟩, hb4⟩; have P4 := Lib.hid (P3.out.on hb4); have HOn := Lib.hid hon; have HBc := Lib.hid hb4)
      refine hK.out _ _ (⟨P4.out.gw.g0, P4.out.gw.g1⟩) (fun hHeld => ?_)
      clear hK K
      try simp only [Act.put, List.setIfInBounds_toArray, List.set_cons_zero, List.set_cons_succ]
      refine wpAnyH_ready (rs := [8]) (by kernel_rfl) (by simp) ?_
      refine AllReadyH.cons (o := Oper.mk _ _ _ _ _ _) rfl (fun K hK => ?_) AllReadyH.nil
      go_simp
      have P5 := Lib.hid (P4.out.on ((Below.refl _ _).alloc (Nat.le_refl _) (.cells (madeCells #[.slice none 0 0, .int .i64 0] (n2 * 2)) 56)))
      have HO5 := Lib.hid (HOn.out.below ((Below.refl _ _).alloc (Nat.le_refl _) (.cells (madeCells #[.slice none 0 0, .int .i64 0] (n2 * 2)) 56)))
      have HF5 := Lib.hid (show (w4.alloc (.cells (madeCells #[.slice none 0 0, .int .i64 0] (n2 * 2)) 56)).heap[w4.heap.size]? = some (.cells (madeCells #[.slice none 0 0, .int .i64 0] (n2 * 2)) 56 (0, 0)) from Array.getElem?_push_size)
      refine hK.out _ _ (⟨P5.out.gw.g0, P5.out.gw.g1⟩) (fun hHeld => ?_)
      clear hK K
      try simp only [Act.put, List.setIfInBounds_toArray, List.set_cons_zero, List.set_cons_succ]
      generalize hgf : w4.heap.size = gf at *
      clear hgf
      generalize hw5 : w4.alloc (.cells (madeCells #[.slice none 0 0, .int .i64 0] (n2 * 2)) 56) = w5 at *
      clear hw5
      refine wpAnyH_take (i := 9) (oi := Oper.mk _ _ _ _ _ _) (v := ?_) rfl (by kernel_rfl) (by kernel_rfl) (by kernel_rfl) (fun _ _ _ h => h) (Or.inl ⟨by rfl, ?_⟩) (by assumption) ?_
      rotate_left
      · (intro w hSw; (try dsimp only at hSw); go_simp; try with_reducible rfl)
      try simp only [Act.put, List.setIfInBounds_toArray, List.set_cons_zero, List.set_cons_succ]
      obtain ⟨y0, y1, yf0, yf1⟩ := two_cells P5.out.res
      refine wpAnyH_ready (rs := [10]) (by kernel_rfl) (by simp) ?_
      refine AllReadyH.cons (o := Oper.mk _ _ _ _ _ _) rfl (fun K hK => ?_) AllReadyH.nil
      go_simp
      change K _ (set2 w5 (w.heap.size + 1) (.slice (some ⟨gs, 0, none⟩) n1 n1) (.slice (some ⟨gf, 0, none⟩) n2 n2))
      refine hK.out _ _ (plain_s P5.out _ _) (fun hHeld => ?_)
      clear hK K
      try simp only [Act.put, List.setIfInBounds_toArray, List.set_cons_zero, List.set_cons_succ]
      refine wpAnyH_done (by kernel_rfl) ?_ _
      go_wp2_with fail
      exact plain_ret (two_set P5.out.res _ _) rfl rfl (HP.out _ gs gf (ones_set HO5.out P5.out.res _ _) (two_keep HF5.out (ne_blocks HF5.out P5.out.res (by decide))) (set2_below P5.out.below (by omega) _ _))
    · go_simp
      have P4 := Lib.hid (P3.out.on ((Below.refl _ _).alloc (Nat.le_refl _) (.cells (madeCells #[.slice none 0 0, .int .i64 0] (n2 * 2)) 56)))
      have HF4 := Lib.hid (show (w3.alloc (.cells (madeCells #[.slice none 0 0, .int .i64 0] (n2 * 2)) 56)).heap[w3.heap.size]? = some (.cells (madeCells #[.slice none 0 0, .int .i64 0] (n2 * 2)) 56 (0, 0)) from Array.getElem?_push_size)
      have HC4 := Lib.hid (((bcell ((Below.refl w3.heap.size w3).alloc (Nat.le_refl _) (.cells (madeCells #[.slice none 0 0, .int .i64 0] (n2 * 2)) 56))).1 b1 0 HL3.out).trans HC3.out)
      have HL4 := Lib.hid (show b1 < (w3.alloc (.cells (madeCells #[.slice none 0 0, .int .i64 0] (n2 * 2)) 56)).heap.size by have := HL3.out; simp; omega)
      refine hK.out _ _ (⟨P4.out.gw.g0, P4.out.gw.g1⟩) (fun hHeld => ?_)
      clear hK K
      try simp only [Act.put, List.setIfInBounds_toArray, List.set_cons_zero, List.set_cons_succ]
      generalize hgf : w3.heap.size = gf at *
      clear hgf
      generalize hw4 : w3.alloc (.cells (madeCells #[.slice none 0 0, .int .i64 0] (n2 * 2)) 56) = w4 at *
      clear hw4
      refine wpAnyH_ready (rs := [4]) (by kernel_rfl) (by simp) ?_
      refine AllReadyH.cons (o := Oper.mk _ _ _ _ _ _) rfl (fun K hK => ?_) AllReadyH.nil
      go_simp
      go_wp2_with (go_at_call 41; refine (HRp.out _ _ ?_ ?_).mono ?_; exact HC4.out; exact HL4.out; rintro e w5 ⟨⟨gs, rfl, hon⟩, hb5⟩; have P5 := Lib.hid (P4.out.on hb5); have HOn := Lib.hid hon; have HBc := Lib.hid hb5)
      have HO5 := HOn
      have HF5 := Lib.hid ((HBc.out.block _ (lt_of_block HF4.out)).trans HF4.out)
      refine hK.out _ _ (⟨P5.out.gw.g0, P5.out.gw.g1⟩) (fun hHeld => ?_)
      clear hK K
      try simp only [Act.put, List.setIfInBounds_toArray, List.set_cons_zero, List.set_cons_succ]
      refine wpAnyH_take (i := 9) (oi := Oper.mk _ _ _ _ _ _) (v := ?_) rfl (by kernel_rfl) (by kernel_rfl) (by kernel_rfl) (fun _ _ _ h => h) (Or.inl ⟨by rfl, ?_⟩) (by assumption) ?_
      rotate_left
      · (intro w hSw; (try dsimp only at hSw); go_simp; try with_reducible rfl)
      try simp only [Act.put, List.setIfInBounds_toArray, List.set_cons_zero, List.set_cons_succ]
      obtain ⟨y0, y1, yf0, yf1⟩ := two_cells P5.out.res
      refine wpAnyH_ready (rs := [10]) (by kernel_rfl) (by simp) ?_
      refine AllReadyH.cons (o := Oper.mk _ _ _ _ _ _) rfl (fun K hK => ?_) AllReadyH.nil
      go_simp
      change K _ (set2 w5 (w.heap.size + 1) (.slice (some ⟨gs, 0, none⟩) n1 n1) (.slice (some ⟨gf, 0, none⟩) n2 n2))
      refine hK.out _ _ (plain_s P5.out _ _) (fun hHeld => ?_)
      clear hK K
      try simp only [Act.put, List.setIfInBounds_toArray, List.set_cons_zero, List.set_cons_succ]
      refine wpAnyH_done (by kernel_rfl) ?_ _
      go_wp2_with fail
      exact plain_ret (two_set P5.out.res _ _) rfl rfl (HP.out _ gs gf (ones_set HO5.out P5.out.res _ _) (two_keep HF5.out (ne_blocks HF5.out P5.out.res (by decide))) (set2_below P5.out.below (by omega) _ _))
  · go_simp
    have P3 := Lib.hid (P1.out.on ((Below.refl _ _).alloc (Nat.le_refl _) (.cells (madeCells #[.slice none 0 0, .int .i64 0] (n2 * 2)) 56)))
    have HF3 := Lib.hid (show (w1.alloc (.cells (madeCells #[.slice none 0 0, .int .i64 0] (n2 * 2)) 56)).heap[w1.heap.size]? = some (.cells (madeCells #[.slice none 0 0, .int .i64 0] (n2 * 2)) 56 (0, 0)) from Array.getElem?_push_size)
    refine hK.out _ _ (⟨P3.out.gw.g0, P3.out.gw.g1⟩) (fun hHeld => ?_)
    clear hK K
    try simp only [Act.put, List.setIfInBounds_toArray, List.set_cons_zero, List.set_cons_succ]
    generalize hgf : w1.heap.size = gf at *
    clear hgf
    generalize hw3 : w1.alloc (.cells (madeCells #[.slice none 0 0, .int .i64 0] (n2 * 2)) 56) = w3 at *
    clear hw3
    refine wpAnyH_ready (rs := [0]) (by kernel_rfl) (by simp) ?_
    refine AllReadyH.cons (o := Oper.mk _ _ _ _ _ _) rfl (fun K hK => ?_) AllReadyH.nil
    go_simp
    have P4 := Lib.hid (P3.out.on ((Below.refl _ _).alloc (Nat.le_refl _) (.cells #[.int .i64 1] 3)))
    have HC4 := Lib.hid (show (w3.alloc (.cells #[.int .i64 1] 3)).cell? ⟨w3.heap.size, 0, none⟩ = some (.int .i64 1) by rw [World.cell?_alloc_mark]; rfl)
    have HL4 := Lib.hid (show w3.heap.size < (w3.alloc (.cells #[.int .i64 1] 3)).heap.size by simp)
    have HF4 := Lib.hid ((Below.heap_alloc w3 (.cells #[.int .i64 1] 3) gf (lt_of_block HF3.out)).trans HF3.out)
    refine hK.out _ _ (⟨P4.out.gw.g0, P4.out.gw.g1⟩) (fun hHeld => ?_)
    clear hK K
    try simp only [Act.put, List.setIfInBounds_toArray, List.set_cons_zero, List.set_cons_succ]
    generalize hb1 : w3.heap.size = b1 at *
    clear hb1
    generalize hw4 : w3.alloc (.cells #[.int .i64 1] 3) = w4 at *
    clear hw4
    refine wpAnyH_ready (rs := [4]) (by kernel_rfl) (by simp) ?_
    refine AllReadyH.cons (o := Oper.mk _ _ _ _ _ _) rfl (fun K hK => ?_) AllReadyH.nil
    go_simp
    go_wp2_with (go_at_call 41; refine (HRp.out _ _ ?_ ?_).mono ?_; exact HC4.out; exact HL4.out; rintro e w5 ⟨⟨gs, rfl, hon⟩, hb5⟩; have P5 := Lib.hid (P4.out.on hb5); have HOn := Lib.hid hon; have HBc := Lib.hid hb5)
    have HO5 := HOn
    have HF5 := Lib.hid ((HBc.out.block _ (lt_of_block HF4.out)).trans HF4.out)
    refine hK.out _ _ (⟨P5.out.gw.g0, P5.out.gw.g1⟩) (fun hHeld => ?_)
    clear hK K
    try simp only [Act.put, List.setIfInBounds_toArray, List.set_cons_zero, List.set_cons_succ]
    refine wpAnyH_take (i := 9) (oi := Oper.mk _ _ _ _ _ _) (v := ?_) rfl (by kernel_rfl) (by kernel_rfl) (by kernel_rfl) (fun _ _ _ h => h) (Or.inl ⟨by rfl, ?_⟩) (by assumption) ?_
    rotate_left
    · (intro w hSw; (try dsimp only at hSw); go_simp; try with_reducible rfl)
    try simp only [Act.put, List.setIfInBounds_toArray, List.set_cons_zero, List.set_cons_succ]
    obtain ⟨y0, y1, yf0, yf1⟩ := two_cells P5.out.res
    refine wpAnyH_ready (rs := [10]) (by kernel_rfl) (by simp) ?_
    refine AllReadyH.cons (o := Oper.mk _ _ _ _ _ _) rfl (fun K hK => ?_) AllReadyH.nil
    go_simp
    change K _ (set2 w5 (w.heap.size + 1) (.slice (some ⟨gs, 0, none⟩) n1 n1) (.slice (some ⟨gf, 0, none⟩) n2 n2))
    refine hK.out _ _ (plain_s P5.out _ _) (fun hHeld => ?_)
    clear hK K
    try simp only [Act.put, List.setIfInBounds_toArray, List.set_cons_zero, List.set_cons_succ]
    refine wpAnyH_done (by kernel_rfl) ?_ _
    go_wp2_with fail
    exact plain_ret (two_set P5.out.res _ _) rfl rfl (HP.out _ gs gf (ones_set HO5.out P5.out.res _ _) (two_keep HF5.out (ne_blocks HF5.out P5.out.res (by decide))) (set2_below P5.out.below (by omega) _ _))
end Go.Proofs.YtfcmpfaonpnbaaaGreatDoor.Vl
