/- The walk of the heap's Halve. -/
import Derived.Test.YtdelfgilcfoaoaaHeapHalf
import Derived.Test.YtdelfgilcfoaoaaMore
namespace Go.Proofs.Ytdelfgilcfoaoaa.Hp
open Go.RowKit Go.Shelf Go.Sort

set_option maxHeartbeats 400000 in
theorem halve_nil (w : World) :
    Calls Try.prog 13 #[.pointer none] w fun e w' => e = .returned (.tuple #[]) ∧ Keeps (fun _ => False) w w' := by
  have HK := Lib.hid (Keeps.refl (fun _ => False) w)
  go_enter Try.func13, Try.ntmps13
  go_wp2_with fail
  exact ret0 rfl rfl ⟨rfl, HK.out.alloc _⟩

/-- what stands while the activities are halved -/
structure HalfAt (O : Nat → Prop) (w : World) (H ba bt : Nat) (rv : Value) (s : St) (c k : Nat) (wr : World) : Prop where
  mem : Mem O wr H ba bt rv (halfTo s k)
  box : wr.heap[c]? = some (.cells #[.pointer (some ⟨H, 0, none⟩)] 24 (0, 0))
  keep : Keeps O w wr
  new : w.heap.size ≤ c
theorem HalfAt.step {O : Nat → Prop} {w wr : World} {H ba bt c k : Nat} {rv : Value} {s : St} (h : HalfAt O w H ba bt rv s c k wr) (hk : k < s.n) (hO : O ba) (hb : ba < w.heap.size) :
    HalfAt O w H ba bt rv s c (k + 1) (wr.setCell ⟨ba, k, none⟩ (.int .i64 (s.act k / 2))) := by
  refine ⟨?_, by rw [setCell_far _ _ (by have := h.new; omega)]; exact h.box, h.keep.setCell (.inl hO) _, h.new⟩
  refine ((h.mem.set_act (i := k) hk (s.act k / 2)).act_congr (halfTo s (k + 1)).act fun i hi => ?_)
  show (if i < k + 1 then s.act i / 2 else s.act i) = upd (fun i => if i < k then s.act i / 2 else s.act i) k (s.act k / 2) i
  by_cases e : i = k
  · subst e; rw [upd_self, if_pos (by omega)]
  · rw [upd_other _ _ e]
    by_cases h2 : i < k
    · rw [if_pos h2, if_pos (by omega)]
    · rw [if_neg h2, if_neg (by omega)]
theorem HalfAt.done {O : Nat → Prop} {w wr : World} {H ba bt c : Nat} {rv : Value} {s : St} (h : HalfAt O w H ba bt rv s c s.n wr) : Mem O wr H ba bt rv (halfSt s) :=
  h.mem.act_congr (halfSt s).act fun i hi => by
    have hi' : i < s.n := hi
    show s.act i / 2 = if i < s.n then s.act i / 2 else s.act i
    rw [if_pos hi']
/-- what stands while the places are told anew -/
structure TellAt (O : Nat → Prop) (w : World) (H ba bt : Nat) (rv : Value) (s : St) (c k : Nat) (wr : World) : Prop where
  mem : Mem O wr H ba bt rv (placeSt s k)
  box : wr.heap[c]? = some (.cells #[.pointer (some ⟨H, 0, none⟩)] 24 (0, 0))
  keep : Keeps O w wr
  new : w.heap.size ≤ c
theorem TellAt.step {O : Nat → Prop} {w wr : World} {H ba bt c k : Nat} {rv : Value} {s : St} (h : TellAt O w H ba bt rv s c k wr) (hk : s.row k < s.n) (hb : bt < w.heap.size) :
    TellAt O w H ba bt rv s c (k + 1) (wr.setCell ⟨bt, s.row k, none⟩ (.int .i64 k)) :=
  ⟨h.mem.set_pos (i := s.row k) hk k, by rw [setCell_far _ _ (by have := h.new; omega)]; exact h.box, h.keep.setCell (.inl h.mem.ot) _, h.new⟩

set_option maxRecDepth 100000 in
set_option maxHeartbeats 3200000 in
theorem halve_none {O : Nat → Prop} {w : World} {H ba bt : Nat} {rv : Value} {s : St} (h : Mem O w H ba bt rv s) (hO : O ba) (hf : Fit s) (hm : s.m = 0) :
    Calls Try.prog 13 #[.pointer (some ⟨H, 0, none⟩)] w fun e w' => e = .returned (.tuple #[]) ∧ Mem O w' H ba bt rv (halfSt s) ∧ Keeps O w w' := by
  obtain ⟨A, cp, hrv⟩ : ∃ A cp, rv = .slice A 0 cp := by
    rcases h.row with ⟨h1, h2⟩ | ⟨br, cap, cs, h1, _⟩
    · exact ⟨none, 0, h1⟩
    · exact ⟨_, cap, by rw [h1, hm]⟩
  obtain ⟨cs0, ha0, _⟩ := h.act
  have hba := lt_of_block ha0
  have hacts := hf.acts
  have hsmall := hf.small
  have H0 := Lib.hid (show HalfAt O w H ba bt rv s w.heap.size 0 (w.alloc (.cells #[.pointer (some ⟨H, 0, none⟩)] 24)) from
    ⟨(h.keep ((Keeps.refl (fun _ => False) w).alloc _) (fun _ _ => id) id).act_congr _ (fun i _ => by show (if i < 0 then _ else _) = _; rw [if_neg (by omega)]), by show (w.heap.push _)[w.heap.size]? = _; exact Array.getElem?_push_size, (Keeps.refl O w).alloc _, Nat.le_refl _⟩)
  obtain ⟨ca, ct, c0, c1, c2, hfz⟩ := H0.out.mem.obj_cells
  have cb := cell_of_cells H0.out.box 0
  have hmf : ∀ (fn : Fn) (first cap : Array Value) (w : World), (Instr.makeFunc fn first cap).run Try.prog w = .ok (.func fn first cap) w := fun _ _ _ _ => rfl
  have hS := fun (fv : Value) (W : World) => Try.slices_SortFunc_none (α := Nat) A cp fv W
  clear h hf ha0
  go_enter Try.func13, Try.ntmps13
  go_wp2_with fail
  generalize w.alloc (.cells #[.pointer (some ⟨H, 0, none⟩)] 24) = w1 at *
  go_wp2_with fail
  go_loopw [13] (fun v wr => ∃ k : Nat, k ≤ s.n ∧ v = .int .i64 k ∧ HalfAt O w H ba bt rv s w.heap.size k wr) (fun v _ => s.n - (intOf v).toNat)
  case atStart => exact ⟨0, Nat.zero_le _, rfl, H0.out⟩
  case round =>
    obtain ⟨k, hk, rfl, hN⟩ := hrel
    have HN := Lib.hid hN
    obtain ⟨ca, ct, c0, c1, c2, hfz⟩ := hN.mem.obj_cells
    have cb := cell_of_cells hN.box 0
    have ft := hN.mem.act_free k
    by_cases hlt : k < s.n
    · have hlt2 : (k : Int) < (s.n : Int) := by omega
      have ck := hN.mem.act_cell (i := k) hlt
      rw [show (halfTo s k).act k = s.act k by show (if k < k then _ else _) = _; rw [if_neg (by omega)]] at ck
      clear hN
      go_wp2_with fail
      go_roundw
      case rel => exact ⟨k + 1, by omega, by go_num, HN.out.step hlt hO hba⟩
      case measure => simp [intOf]; omega
    · obtain rfl : k = s.n := by omega
      have HD := Lib.hid hN.done
      rw [hrv] at c1
      clear hN ft
      go_wp2_with fail
      refine (hS _ _).mono ?_
      rintro e w' ⟨rfl, rfl⟩
      go_wp2_with fail
      go_loopw [40] (fun v wr => v = .int .i64 0 ∧ wr = w') (fun v _ => 0)
      case atStart => exact ⟨rfl, rfl⟩
      case round =>
        obtain ⟨rfl, rfl⟩ := hrel
        go_wp2_with fail
        go_end0
        exact ⟨rfl, HD.out, HN.out.keep⟩

set_option maxHeartbeats 1600000 in
/-- the sort of the rows, from where the activities are halved -/
theorem sort_calls {O : Nat → Prop} {w W : World} {H ba bt br cap : Nat} {s : St} (hW : HalfAt O w H ba bt (.slice (some ⟨br, 0, none⟩) s.m cap) s w.heap.size s.n W) (hf : Fit s) (hm : 0 < s.m) (hbr : br < w.heap.size) :
    Calls Try.prog 31 #[.slice (some ⟨br, 0, none⟩) s.m cap, .func (.func 32) #[] #[.pointer (some ⟨w.heap.size, 0, none⟩)]] W fun e w' => e = .returned (.tuple #[]) ∧ ∃ f, TellAt O w H ba bt (.slice (some ⟨br, 0, none⟩) s.m cap) (rowSt (halfSt s) f) w.heap.size 0 w' ∧ Sorts s f ∧ ∀ i j, i < j → j < s.m → ¬ Hp.ahead (halfSt s).act (f j) (f i) := by
  haveI i1 : Inhabited (Fin s.n) := ⟨⟨s.row 0, hf.node 0 hm⟩⟩
  letI i2 : Inhabited (Fin (halfSt s).n) := i1
  have hM := hW.done
  have hsz := hW.keep.size
  have hbox := hW.box
  have hbl := lt_of_block hbox
  obtain ⟨br2, cap2, hbe, _, _, hrow, hrf, hrba, hrbt, hrH, hOr, hbr2⟩ := hM.rows hm
  simp only [Value.slice.injEq, Option.some.injEq, Addr.mk.injEq, and_true] at hbe
  obtain ⟨rfl, -, rfl⟩ := hbe
  have hcmp : CmpLays1 Try.prog 32 #[.pointer (some ⟨w.heap.size, 0, none⟩)] (encN (n := s.n)) (leadB (halfSt s).act) br 0 (rowsArr hf).size W := by
    intro m os dk hdk x y
    rw [rowsArr_size] at hdk
    have hMs := hM.sorted m dk os hdk
    obtain ⟨ca, ct, c0, _⟩ := hMs.obj_cells
    have hb2 : (sortWorld encN W br 0 m dk os).heap[w.heap.size]? = _ := (sort_block (enc := encN) (n := m) (d := dk) (os := os) hbl (by omega)).trans hbox
    have hb3 := cell_of_cells hb2 0
    refine (cmp_raw hb3 c0 x.val y.val _ _ x.2 y.2 (hMs.act_cell (i := x.val) x.2) (hMs.act_cell (i := y.val) y.2)).mono ?_
    rintro e w' ⟨rfl, q, rfl⟩
    exact ⟨rfl, q, #[], by rw [grow_empty]⟩
  have hH : Holds (encN (n := s.n)) W br 0 (rowsArr hf) := rowsArr_holds hf hrow hrf
  have h := Try.slices_SortFunc (encN (n := s.n)) (fun _ => rfl) (leadB (halfSt s).act) lead_swo 32 #[.pointer (some ⟨w.heap.size, 0, none⟩)] br 0 cap (rowsArr hf) W (fun _ _ => rfl) hcmp hH hbr2 (by rw [rowsArr_size]; have := hf.le; have := hf.small; omega)
  rw [rowsArr_size] at h
  refine h.mono ?_
  rintro e w' ⟨rfl, d', n, os, hp, hs, rfl⟩
  have hd' : d'.size = s.m := by rw [hp.1, rowsArr_size]
  refine ⟨rfl, fun k => (d'[k]!).val, ⟨hM.sorted n d' os hd', (sort_block hbl (by omega)).trans hbox, hW.keep.trans_same (sort_keeps hOr), hW.new⟩, Sorts.of_perm hf (by rw [rowsArr_size]; exact hp), fun i j hij hj => ?_⟩
  have := hs i j (Nat.zero_le _) hij hj
  rw [lead_lt, aheadB_no] at this
  exact this

set_option maxRecDepth 100000 in
set_option maxHeartbeats 3200000 in
theorem halve_some {O : Nat → Prop} {w : World} {H ba bt : Nat} {rv : Value} {s : St} (h : Mem O w H ba bt rv s) (hO : O ba) (hf : Fit s) (hm : 0 < s.m) :
    Calls Try.prog 13 #[.pointer (some ⟨H, 0, none⟩)] w fun e w' => e = .returned (.tuple #[]) ∧ ∃ f, Mem O w' H ba bt rv (halvedSt s f) ∧ Sorts s f ∧ (∀ i j, i < j → j < s.m → ¬ Hp.ahead (halfSt s).act (f j) (f i)) ∧ Keeps O w w' := by
  haveI : Inhabited (Fin s.n) := ⟨⟨s.row 0, hf.node 0 hm⟩⟩
  obtain ⟨br, cap, rfl, hmc, hcm, hrow, hrf, hrba, hrbt, hrH, hOr, hbr⟩ := h.rows hm
  unfold maxLen at hcm
  obtain ⟨cs0, ha0, _⟩ := h.act
  have hba := lt_of_block ha0
  obtain ⟨cst, ht0, _⟩ := h.pos
  have hbt := lt_of_block ht0
  obtain ⟨_, _, hH0⟩ := h.obj
  have hHl := lt_of_block hH0
  have hsmall := hf.small
  have hle := hf.le
  have hfh : Fit (halfSt s) := ⟨hf.small, fun i hi => by have := hf.acts i hi; show 0 ≤ s.act i / 2 ∧ s.act i / 2 ≤ 1099511627776; omega, hf.node, hf.back, hf.place, hf.many⟩
  have H0 := Lib.hid (show HalfAt O w H ba bt (.slice (some ⟨br, 0, none⟩) s.m cap) s w.heap.size 0 (w.alloc (.cells #[.pointer (some ⟨H, 0, none⟩)] 24)) from
    ⟨(h.keep ((Keeps.refl (fun _ => False) w).alloc _) (fun _ _ => id) id).act_congr _ (fun i _ => by show (if i < 0 then _ else _) = _; rw [if_neg (by omega)]), by show (w.heap.push _)[w.heap.size]? = _; exact Array.getElem?_push_size, (Keeps.refl O w).alloc _, Nat.le_refl _⟩)
  obtain ⟨ca, ct, c0, c1, c2, hfz⟩ := H0.out.mem.obj_cells
  have cb := cell_of_cells H0.out.box 0
  have hmf : ∀ (fn : Fn) (first cap : Array Value) (w : World), (Instr.makeFunc fn first cap).run Try.prog w = .ok (.func fn first cap) w := fun _ _ _ _ => rfl
  have HF := Lib.hid hf
  have HFH := Lib.hid hfh
  have hS := fun (W : World) (hW : HalfAt O w H ba bt (.slice (some ⟨br, 0, none⟩) s.m cap) s w.heap.size s.n W) => sort_calls hW hf hm hbr
  clear h hf ha0 hfh hH0 ht0 hrow
  go_enter Try.func13, Try.ntmps13
  go_wp2_with fail
  generalize w.alloc (.cells #[.pointer (some ⟨H, 0, none⟩)] 24) = w1 at *
  go_wp2_with fail
  go_loopw [13] (fun v wr => ∃ k : Nat, k ≤ s.n ∧ v = .int .i64 k ∧ HalfAt O w H ba bt (.slice (some ⟨br, 0, none⟩) s.m cap) s w.heap.size k wr) (fun v _ => s.n - (intOf v).toNat)
  case atStart => exact ⟨0, Nat.zero_le _, rfl, H0.out⟩
  case round =>
    obtain ⟨k, hk, rfl, hN⟩ := hrel
    have HN := Lib.hid hN
    obtain ⟨ca, ct, c0, c1, c2, hfz⟩ := hN.mem.obj_cells
    have cb := cell_of_cells hN.box 0
    have ft := hN.mem.act_free k
    by_cases hlt : k < s.n
    · have hlt2 : (k : Int) < (s.n : Int) := by omega
      have ck := hN.mem.act_cell (i := k) hlt
      rw [show (halfTo s k).act k = s.act k by show (if k < k then _ else _) = _; rw [if_neg (by omega)]] at ck
      clear hN
      go_wp2_with fail
      go_roundw
      case rel => exact ⟨k + 1, by omega, by go_num, HN.out.step hlt hO hba⟩
      case measure => simp [intOf]; omega
    · obtain rfl : k = s.n := by omega
      have HC := Lib.hid (hS _ hN)
      clear hN ft
      go_wp2_with fail
      refine (HC.out).mono ?_
      rintro e w2 ⟨rfl, f, hT, hSo, hA⟩
      have HT := Lib.hid hT
      have HSo := Lib.hid hSo
      have HA := Lib.hid hA
      obtain ⟨ca2, ct2, d0, d1, d2, dfz⟩ := hT.mem.obj_cells
      have db := cell_of_cells hT.box 0
      clear c0 c1 c2 hfz cb hT hSo hA
      go_wp2_with fail
      go_loopw [40] (fun v wr => ∃ k : Nat, k ≤ s.m ∧ v = .int .i64 k ∧ TellAt O w H ba bt (.slice (some ⟨br, 0, none⟩) s.m cap) (rowSt (halfSt s) f) w.heap.size k wr) (fun v _ => s.m - (intOf v).toNat)
      case atStart => exact ⟨0, Nat.zero_le _, rfl, HT.out⟩
      case round =>
        obtain ⟨k, hk, rfl, hN⟩ := hrel
        have HN := Lib.hid hN
        obtain ⟨ca, ct, c0, c1, c2, hfz⟩ := hN.mem.obj_cells
        have cb := cell_of_cells hN.box 0
        by_cases hlt : k < s.m
        · have hlt2 : (k : Int) < (s.m : Int) := by omega
          obtain ⟨br2, cap2, hbe, _, _, hrow, _⟩ := hN.mem.rows hm
          simp only [Value.slice.injEq, Option.some.injEq, Addr.mk.injEq, and_true] at hbe
          obtain ⟨rfl, -, rfl⟩ := hbe
          have ck : wr.cell? ⟨br, k, none⟩ = some (.int .i64 (f k)) := hrow k hlt
          have hfk := HSo.out.lt k hlt
          have hfk2 : (f k : Int) < (s.n : Int) := by omega
          have cp := hN.mem.pos_cell (i := f k) hfk
          have ft := hN.mem.pos_free (f k)
          clear hN hrow
          go_wp2_with fail
          go_roundw
          case rel => exact ⟨k + 1, by omega, by go_num, HN.out.step hfk hbt⟩
          case measure => simp [intOf]; omega
        · obtain rfl : k = s.m := by omega
          clear hN
          go_wp2_with fail
          go_end0
          exact ⟨rfl, f, HN.out.mem, HSo.out, HA.out, HN.out.keep⟩

/-- what a heap says of each node, after Halve -/
theorem halve_any {O : Nat → Prop} {w : World} {H ba bt : Nat} {rv : Value} {s : St} (h : Mem O w H ba bt rv s) (hO : O ba) (hf : Fit s) (_ : Ord s) :
    Calls Try.prog 13 #[.pointer (some ⟨H, 0, none⟩)] w fun e w' => e = .returned (.tuple #[]) ∧ ∃ s', Mem O w' H ba bt rv s' ∧ Fit s' ∧ Ord s' ∧ Like (halfSt s) s' ∧ Keeps O w w' := by
  by_cases hm : s.m = 0
  · refine (halve_none h hO hf hm).mono ?_
    rintro e w' ⟨rfl, h1, h2⟩
    exact ⟨rfl, _, h1, ⟨hf.small, fun i hi => by have := hf.acts i hi; show 0 ≤ s.act i / 2 ∧ s.act i / 2 ≤ 1099511627776; omega, hf.node, hf.back, hf.place, hf.many⟩, fun c _ hc => by have hc' : c < s.m := hc; omega, Like.refl _, h2⟩
  · refine (halve_some h hO hf (by omega)).mono ?_
    rintro e w' ⟨rfl, f, h1, h2, h3, h4⟩
    exact ⟨rfl, _, h1, h2.fit hf, h2.ord h3, ⟨rfl, rfl, rfl, fun i hi => h2.has hf hi⟩, h4⟩
end Go.Proofs.Ytdelfgilcfoaoaa.Hp
