/- The document's heap: New, Halve, Len, Pop. -/
import Derived.Test.YtdelfgilcfoaoaaHeapRef
namespace Go.Proofs.Ytdelfgilcfoaoaa.Hp
open Go.RowKit

theorem rnew_mem {w : World} {n a b : Nat} (hn : n ≤ 65536) (hab : (a = 0 ∧ b = 1) ∨ (a = 1 ∧ b = 0)) {o1 o2 : Obj} (h1 : (a = 0 ∧ o1 = .cells (madeCells #[.int .i64 0] n) 3 ∧ o2 = .cells (madeCells #[.bool false] n) 4) ∨ (a = 1 ∧ o2 = .cells (madeCells #[.int .i64 0] n) 3 ∧ o1 = .cells (madeCells #[.bool false] n) 4)) :
    RMem ((((w.alloc o1).alloc o2).alloc (.cells #[.slice (some ⟨w.heap.size + a, 0, none⟩) n n, .slice (some ⟨w.heap.size + b, 0, none⟩) n n] 57)).drew) (w.heap.size + 1 + 1) (w.heap.size + a) (w.heap.size + b) (newA n) := by
  have g0 : ∀ x y z : Obj, (((w.heap.push x).push y).push z)[w.heap.size]? = some x := fun x y z => by
    simp only [Array.getElem?_push, Array.size_push]
    rw [if_neg (by omega), if_neg (by omega), if_pos trivial]
  have g1 : ∀ x y z : Obj, (((w.heap.push x).push y).push z)[w.heap.size + 1]? = some y := fun x y z => by
    simp only [Array.getElem?_push, Array.size_push]
    rw [if_neg (by omega), if_pos trivial]
  have g2 : ∀ x y z : Obj, (((w.heap.push x).push y).push z)[w.heap.size + 1 + 1]? = some z := fun x y z => by
    simp only [Array.getElem?_push, Array.size_push]
    rw [if_pos trivial]
  refine ⟨⟨n, n, g2 _ _ _⟩, ⟨madeCells #[.int .i64 0] n, ?_, fun i hi => madeCells_at _ n i hi⟩, ⟨madeCells #[.bool false] n, ?_, fun i hi => madeCells_at _ n i hi⟩, fun i _ => ⟨Int.le_refl 0, by show (0 : Int) ≤ _; omega⟩, hn⟩
  · rcases h1 with ⟨rfl, rfl, rfl⟩ | ⟨rfl, rfl, rfl⟩
    · exact g0 _ _ _
    · exact g1 _ _ _
  · rcases h1 with ⟨rfl, rfl, rfl⟩ | ⟨rfl, rfl, rfl⟩
    · obtain rfl : b = 1 := by omega
      exact g1 _ _ _
    · obtain rfl : b = 0 := by omega
      exact g0 _ _ _

set_option maxHeartbeats 800000 in
theorem rnew_bad (n : Int) (hn : n < 0 ∨ 65536 < n) (w : World) :
    Calls Try.prog 18 #[.int .i64 n] w fun e w' => e = .returned (.pointer none) ∧ w = w' := by
  rcases hn with h | h
  all_goals
    go_enter Try.func18, Try.ntmps18
    go_wp2_with fail
    go_ret
    exact ⟨rfl, rfl⟩
set_option maxRecDepth 100000 in
set_option maxHeartbeats 3200000 in
theorem rnew_any (n : Nat) (hn : n ≤ 65536) (w : World) :
    Calls Try.prog 18 #[.int .i64 n] w fun e w' => ∃ G ga gi, e = .returned (.pointer (some ⟨G, 0, none⟩)) ∧ RMem w' G ga gi (newA n) ∧ (w.heap.size ≤ G ∧ w.heap.size ≤ ga ∧ w.heap.size ≤ gi) ∧ Below w.heap.size w w' := by
  have hmk := run_make_int n (by omega)
  have hmb := run_make_bool n (by omega)
  go_enter Try.func18, Try.ntmps18
  go_wp2_with fail
  go_region
  · go_wp2_with fail
    go_ret
    exact ⟨_, _, _, rfl, rnew_mem (a := 0) (b := 1) hn (by omega) (.inl ⟨rfl, rfl, rfl⟩), ⟨by omega, by omega, by omega⟩, ((((Below.refl _ _).alloc (Nat.le_refl _) _).alloc (by simp) _).alloc (by simp; omega) _).drew⟩
  · go_wp2_with fail
    go_ret
    exact ⟨_, _, _, rfl, rnew_mem (a := 1) (b := 0) hn (by omega) (.inr ⟨rfl, rfl, rfl⟩), ⟨by omega, by omega, by omega⟩, ((((Below.refl _ _).alloc (Nat.le_refl _) _).alloc (by simp) _).alloc (by simp; omega) _).drew⟩

/-- the first k halved -/
def rhalf (a : Ab) (k : Nat) : Ab := { a with act := fun i => if i < k then a.act i / 2 else a.act i }
theorem rhalf_zero (a : Ab) : rhalf a 0 = a := by unfold rhalf; simp
theorem RMem.half_step {w : World} {G ga gi : Nat} {a : Ab} {k : Nat} (h : RMem w G ga gi (rhalf a k)) (ha : ∀ i, i < a.n → 0 ≤ a.act i ∧ a.act i ≤ 1099511627776) (hk : k < a.n) : RMem (w.setCell ⟨ga, k, none⟩ (.int .i64 (a.act k / 2))).drew G ga gi (rhalf a (k + 1)) := by
  have hb := ha k hk
  have h1 := h.set_act (i := k) hk (v := a.act k / 2) (by omega)
  have hf : upd (rhalf a k).act k (a.act k / 2) = (rhalf a (k + 1)).act := by
    funext j
    unfold rhalf upd
    by_cases e : j = k
    · subst e; simp
    · rw [if_neg e]
      by_cases h1 : j < k
      · simp only [if_pos h1, if_pos (show j < k + 1 by omega)]
      · simp only [if_neg h1, if_neg (show ¬ j < k + 1 by omega)]
  rw [hf] at h1
  exact h1.of_heap rfl
theorem RMem.congr {w : World} {G ga gi : Nat} {a b : Ab} (h : RMem w G ga gi a) (e : Ab.Eq a b) : RMem w G ga gi b := by
  obtain ⟨en, ea, ei⟩ := e
  obtain ⟨cs, h2, h2'⟩ := h.act
  obtain ⟨cp, h3, h3'⟩ := h.inn
  refine ⟨by rw [en]; exact h.obj, ⟨cs, h2, fun i hi => ?_⟩, ⟨cp, h3, fun i hi => ?_⟩, fun i hi => ?_, by rw [en]; exact h.small⟩
  · rw [en] at hi; rw [ea i hi]; exact h2' i hi
  · rw [en] at hi; rw [ei i hi]; exact h3' i hi
  · rw [en] at hi; rw [ea i hi]; exact h.acts i hi

set_option maxHeartbeats 800000 in
theorem rhalve_nil (w : World) :
    Calls Try.prog 22 #[.pointer none] w fun e w' => e = .returned (.tuple #[]) ∧ w = w' := by
  go_enter Try.func22, Try.ntmps22
  go_wp2_with fail
  exact ret0 Try.results22 rfl ⟨rfl, rfl⟩
set_option maxRecDepth 100000 in
set_option maxHeartbeats 3200000 in
theorem rhalve_any {w : World} {G ga gi : Nat} {a : Ab} (h : RMem w G ga gi a) :
    Calls Try.prog 22 #[.pointer (some ⟨G, 0, none⟩)] w fun e w' => e = .returned (.tuple #[]) ∧ RMem w' G ga gi a.halve ∧ Keeps (rset ga gi) w w' := by
  have HM := Lib.hid h
  have HA := Lib.hid h.acts
  have hn := h.small
  clear h
  go_enter Try.func22, Try.ntmps22
  go_wp2_with fail
  go_loopw [2] (fun v wr => ∃ k : Nat, k ≤ a.n ∧ v = .int .i64 k ∧ RMem wr G ga gi (rhalf a k) ∧ Keeps (rset ga gi) w wr) (fun v _ => a.n - (intOf v).toNat)
  case atStart => exact ⟨0, Nat.zero_le _, rfl, by rw [rhalf_zero]; exact HM.out, Keeps.refl _ _⟩
  case round =>
    obtain ⟨k, hk, rfl, hm, hkp⟩ := hrel
    have HK := Lib.hid hkp
    obtain ⟨ca, ci, c0, c1⟩ := hm.obj_cells
    replace c0 : wr.cell? ⟨G, 0, none⟩ = some (.slice (some ⟨ga, 0, none⟩) a.n ca) := c0
    clear c1 hkp
    by_cases hlt : k < a.n
    · have hlt2 : (k : Int) < (a.n : Int) := by omega
      have c := hm.act_cell (i := k) hlt
      have f := hm.act_free k
      replace c : wr.cell? ⟨ga, k, none⟩ = some (.int .i64 (a.act k)) := by rw [c]; simp [rhalf]
      have HN := Lib.hid (hm.half_step HA.out hlt)
      have HKN := Lib.hid (show Keeps (rset ga gi) w (wr.setCell ⟨ga, k, none⟩ (.int .i64 (a.act k / 2))).drew from (HK.out.setCell (.inl (.inl rfl)) _).drew)
      obtain ⟨b0, b1⟩ := HA.out k hlt
      generalize a.act k = x at *
      clear hm
      go_wp2_with fail
      go_region
      generalize (wr.setCell ⟨ga, k, none⟩ (.int .i64 (x / 2))).drew = w2 at *
      go_wp2_with fail
      go_roundw
      case rel => exact ⟨k + 1, by omega, by go_num, HN.out, HKN.out⟩
      case measure => simp [intOf]; omega
    · obtain rfl : k = a.n := by omega
      have HE := Lib.hid (show RMem wr G ga gi a.halve from hm.congr ⟨rfl, fun i hi => by show a.act i / 2 = if i < a.n then a.act i / 2 else a.act i; rw [if_pos (show i < a.n from hi)], fun _ _ => rfl⟩)
      clear hm
      go_wp2_with fail
      go_end0
      exact ⟨rfl, HE.out, HK.out⟩

set_option maxHeartbeats 800000 in
theorem rlen_nil (w : World) :
    Calls Try.prog 23 #[.pointer none] w fun e w' => e = .returned (.int .i64 0) ∧ w = w' := by
  go_enter Try.func23, Try.ntmps23
  go_wp2_with fail
  go_ret
  exact ⟨rfl, rfl⟩
set_option maxRecDepth 100000 in
set_option maxHeartbeats 3200000 in
theorem rlen_any {w : World} {G ga gi : Nat} {a : Ab} (h : RMem w G ga gi a) :
    Calls Try.prog 23 #[.pointer (some ⟨G, 0, none⟩)] w fun e w' => e = .returned (.int .i64 a.len) ∧ w = w' := by
  have HM := Lib.hid h
  have hn := h.small
  obtain ⟨ca, ci, c0, c1⟩ := h.obj_cells
  clear h c0
  unfold Ab.len
  go_enter Try.func23, Try.ntmps23
  go_wp2_with fail
  go_loop [3, 4] (fun c v => ∃ k : Nat, k ≤ a.n ∧ v = .int .i64 k ∧ c = .int .i64 (cnt k a.inn : Nat)) (fun _ v => a.n - (intOf v).toNat)
  case atStart => exact ⟨0, Nat.zero_le _, rfl, rfl⟩
  case round =>
    obtain ⟨k, hk, rfl, rfl⟩ := hrel
    have hcl := cnt_le k a.inn
    by_cases hlt : k < a.n
    · have hlt2 : (k : Int) < (a.n : Int) := by omega
      have c := HM.out.inn_cell hlt
      have HS := Lib.hid (cnt_succ k a.inn)
      cases hb : a.inn k with
      | true =>
        rw [hb] at c
        replace HS := Lib.hid (show cnt (k + 1) a.inn = cnt k a.inn + 1 by rw [HS.out, hb]; rfl)
        clear hb
        go_wp2_with fail
        go_round
        case rel => exact ⟨k + 1, by omega, by go_num, by rw [HS.out]; go_num⟩
        case measure => simp [intOf]; omega
      | false =>
        rw [hb] at c
        replace HS := Lib.hid (show cnt (k + 1) a.inn = cnt k a.inn by rw [HS.out, hb]; rfl)
        clear hb
        go_wp2_with fail
        go_round
        case rel => exact ⟨k + 1, by omega, by go_num, by rw [HS.out]⟩
        case measure => simp [intOf]; omega
    · obtain rfl : k = a.n := by omega
      go_wp2_with fail
      go_ret
      exact ⟨rfl, rfl⟩

/-- the best of the first k -/
def BestAt (a : Ab) (k : Nat) (x : Int) : Prop := (x = -1 ∧ ∀ j, j < k → a.inn j = false) ∨ (∃ b : Nat, x = b ∧ b < k ∧ a.inn b = true ∧ ∀ j, j < k → a.inn j = true → j ≠ b → ahead a.act b j)
theorem BestAt.out {a : Ab} {k : Nat} {x : Int} (h : BestAt a k x) (hk : a.inn k = false) : BestAt a (k + 1) x := by
  rcases h with ⟨h1, h2⟩ | ⟨b, h1, h2, h3, h4⟩
  · refine .inl ⟨h1, fun j hj => ?_⟩
    by_cases e : j = k
    · rw [e]; exact hk
    · exact h2 j (by omega)
  · refine .inr ⟨b, h1, by omega, h3, fun j hj hi hne => ?_⟩
    by_cases e : j = k
    · rw [e, hk] at hi; cases hi
    · exact h4 j (by omega) hi hne
theorem BestAt.one {a : Ab} {k : Nat} {x : Int} (h : BestAt a k x) (hx : x < 0) (hk : a.inn k = true) : BestAt a (k + 1) k := by
  rcases h with ⟨h1, h2⟩ | ⟨b, h1, h2, h3, h4⟩
  · refine .inr ⟨k, rfl, by omega, hk, fun j hj hi hne => ?_⟩
    rw [h2 j (by omega)] at hi; cases hi
  · omega
theorem BestAt.more {a : Ab} {k b : Nat} (h : BestAt a k b) (hk : a.inn k = true) (hb : a.act b < a.act k) : BestAt a (k + 1) k := by
  rcases h with ⟨h1, h2⟩ | ⟨c, h1, h2, h3, h4⟩
  · omega
  · obtain rfl : b = c := by omega
    refine .inr ⟨k, rfl, by omega, hk, fun j hj hi hne => ?_⟩
    by_cases e : j = b
    · rw [e]; exact .inl hb
    · have := h4 j (by omega) hi e
      unfold ahead at *; omega
theorem BestAt.less {a : Ab} {k b : Nat} (h : BestAt a k b) (hb : ¬ a.act b < a.act k) : BestAt a (k + 1) b := by
  rcases h with ⟨h1, h2⟩ | ⟨c, h1, h2, h3, h4⟩
  · omega
  · obtain rfl : b = c := by omega
    refine .inr ⟨b, rfl, by omega, h3, fun j hj hi hne => ?_⟩
    by_cases e : j = k
    · rw [e]; unfold ahead; omega
    · exact h4 j (by omega) hi hne

set_option maxHeartbeats 800000 in
theorem rpop_nil (w : World) :
    Calls Try.prog 20 #[.pointer none] w fun e w' => e = .returned (.tuple #[.int .i64 0, .bool false]) ∧ w = w' := by
  go_enter Try.func20, Try.ntmps20
  go_wp2_with fail
  go_ret2
  exact ⟨rfl, rfl⟩
set_option maxRecDepth 100000 in
set_option maxHeartbeats 6400000 in
theorem rpop_any {w : World} {G ga gi : Nat} {a : Ab} (h : RMem w G ga gi a) :
    Calls Try.prog 20 #[.pointer (some ⟨G, 0, none⟩)] w fun e w' => PopE a e ∧ RMem w' G ga gi (popA a) ∧ Keeps (fun k => k = gi) w w' := by
  have HM := Lib.hid h
  have hn := h.small
  obtain ⟨ca, ci, c0, c1⟩ := h.obj_cells
  clear h
  go_enter Try.func20, Try.ntmps20
  go_wp2_with fail
  go_loopw [4, 5] (fun x v wr => ∃ (k : Nat) (y : Int), k ≤ a.n ∧ v = .int .i64 k ∧ x = .int .i64 y ∧ BestAt a k y ∧ ∃ q, wr = w.drewN q) (fun _ v _ => a.n - (intOf v).toNat)
  case atStart => exact ⟨0, -1, Nat.zero_le _, rfl, rfl, .inl ⟨rfl, fun j hj => by omega⟩, 0, rfl⟩
  case round =>
    obtain ⟨k, y, hk, rfl, rfl, hb, q, rfl⟩ := hrel
    have HB := Lib.hid hb
    by_cases hlt : k < a.n
    · have hlt2 : (k : Int) < (a.n : Int) := by omega
      have ci' := HM.out.inn_cell hlt
      have cak := HM.out.act_cell hlt
      cases hi : a.inn k with
      | false =>
        rw [hi] at ci'
        have HN := Lib.hid (HB.out.out hi)
        clear hi hb cak
        go_wp2_with fail
        go_quiet (fail)
        go_wp2_with fail
        go_roundw
        case rel => exact ⟨k + 1, y, by omega, by go_num, rfl, HN.out, _, rfl⟩
        case measure => simp [intOf]; omega
      | true =>
        rw [hi] at ci'
        by_cases hy : y < 0
        · have HN := Lib.hid (HB.out.one hy hi)
          clear hi hb cak
          go_wp2_with fail
          go_quiet (fail)
          go_wp2_with fail
          go_roundw
          case rel => exact ⟨k + 1, k, by omega, by go_num, rfl, HN.out, _, rfl⟩
          case measure => simp [intOf]; omega
        · obtain ⟨b, rfl⟩ := Int.eq_ofNat_of_zero_le (show 0 ≤ y by omega)
          have hbk : b < k := by
            rcases hb with ⟨h1, _⟩ | ⟨c, h1, h2, _⟩
            · omega
            · omega
          have hbn : (b : Int) < (a.n : Int) := by omega
          have cab := HM.out.act_cell (show b < a.n by omega)
          have d1 : decide ((b : Int) < 0) = false := decide_eq_false hy
          by_cases hlt3 : a.act b < a.act k
          · have HN := Lib.hid (HB.out.more hi hlt3)
            generalize a.act b = x at *
            generalize a.act k = z at *
            clear hi hb hy
            go_wp2_with fail
            go_quiet (fail)
            go_wp2_with fail
            go_roundw
            case rel => exact ⟨k + 1, k, by omega, by go_num, rfl, HN.out, _, rfl⟩
            case measure => simp [intOf]; omega
          · have HN := Lib.hid (HB.out.less hlt3)
            have d2 : decide (a.act b < a.act k) = false := decide_eq_false hlt3
            generalize a.act b = x at *
            generalize a.act k = z at *
            clear hi hb hy
            go_wp2_with fail
            go_quiet (fail)
            go_wp2_with fail
            go_roundw
            case rel => exact ⟨k + 1, b, by omega, by go_num, rfl, HN.out, _, rfl⟩
            case measure => simp [intOf]; omega
    · obtain rfl : k = a.n := by omega
      by_cases hy : y < 0
      · have hE : Empty a := by
          rcases hb with ⟨_, h2⟩ | ⟨c, h1, _⟩
          · exact h2
          · omega
        have HE := Lib.hid (show PopE a (.returned (.tuple #[.int .i64 0, .bool false])) ∧ RMem (w.drewN q) G ga gi (popA a) ∧ Keeps (fun k => k = gi) w (w.drewN q) from ⟨.inr ⟨hE, rfl⟩, by rw [popA_empty hE]; exact HM.out.of_heap rfl, (Keeps.refl _ _).drewN _⟩)
        clear hb hE
        go_wp2_with fail
        go_ret2
        exact HE.out
      · obtain ⟨b, rfl⟩ := Int.eq_ofNat_of_zero_le (show 0 ≤ y by omega)
        obtain ⟨hF, hbn⟩ : First a b ∧ b < a.n := by
          rcases hb with ⟨h1, _⟩ | ⟨c, h1, h2, h3, h4⟩
          · omega
          · obtain rfl : b = c := by omega
            exact ⟨⟨h2, h3, h4⟩, h2⟩
        have HE := Lib.hid (show PopE a (.returned (.tuple #[.int .i64 b, .bool true])) ∧ RMem ((w.setCell ⟨gi, b, none⟩ (.bool false)).drewN q) G ga gi (popA a) ∧ Keeps (fun k => k = gi) w ((w.setCell ⟨gi, b, none⟩ (.bool false)).drewN q) from
          ⟨.inl ⟨b, hF, rfl⟩, by rw [popA_first hF]; exact (HM.out.set_inn hbn false).of_heap rfl, ((Keeps.refl (fun k => k = gi) w).setCell (p := ⟨gi, b, none⟩) (.inl rfl) _).drewN _⟩)
        have hbn2 : (b : Int) < (a.n : Int) := by omega
        have cb := HM.out.inn_cell hbn
        have fb := HM.out.inn_free b
        have d1 : decide ((b : Int) < 0) = false := decide_eq_false hy
        clear hb hF
        go_wp2_with fail
        go_ret2
        exact HE.out
end Go.Proofs.Ytdelfgilcfoaoaa.Hp
