/- The walks of layer 1's Parse. -/
import Derived.Test.YtmcbolkpbklfeaaGreatDoorNumPlain
import Derived.Deep.QuietTactic
namespace Go.Proofs.YtmcbolkpbklfeaaGreatDoor
open Go.RowKit

set_option maxHeartbeats 400000 in
theorem put_any (d n : Int) (o : Bool) (bn bo : Nat) (w : World) (hd0 : 0 ≤ d) (hd9 : d ≤ 9) (hn0 : 0 ≤ n) (hn1 : n ≤ 4611686018427387904)
    (hn : w.cell? ⟨bn, 0, none⟩ = some (.int .i64 n)) (ho : w.cell? ⟨bo, 0, none⟩ = some (.bool o)) (fn : w.frozen? ⟨bn, 0, none⟩ = false) (fo : w.frozen? ⟨bo, 0, none⟩ = false) :
    Calls Tryz.prog 224 #[.int .i64 d, .pointer (some ⟨bn, 0, none⟩), .pointer (some ⟨bo, 0, none⟩)] w fun e w' => e = .returned (.tuple #[]) ∧
      w' = (if (4611686018427387904 - d) / 10 < n then w.setCell ⟨bo, 0, none⟩ (.bool true) else w.setCell ⟨bn, 0, none⟩ (.int .i64 (n * 10 + d))) := by
  by_cases h : (4611686018427387904 - d) / 10 < n
  · rw [if_pos h]
    go_enter Tryz.func224, Tryz.ntmps224
    go_wp2
    exact ret0 rfl rfl ⟨rfl, rfl⟩
  · rw [if_neg h]
    go_enter Tryz.func224, Tryz.ntmps224
    go_wp2
    go_end0
    exact ⟨rfl, rfl⟩

/-- what stands in memory after k digits -/
structure ParseAt (s : ByteArray) (w : World) (k : Nat) (wr : World) : Prop where
  n : wr.heap[w.heap.size]? = some (.cells #[.int .i64 (putAll (0, false) (s.data.toList.take k)).1] 3 (0, 0))
  o : wr.heap[w.heap.size + 1]? = some (.cells #[.bool (putAll (0, false) (s.data.toList.take k)).2] 4 (0, 0))
  c : ∀ j (hj : j < s.data.size), wr.cell? ⟨w.heap.size + 1 + 1, j, none⟩ = some (.int .u8 (s.data[j].toNat : Int))
  d : (s.data.toList.take k).all isDig = true
  b : Below w.heap.size w wr

theorem size_pos_of {s : ByteArray} (hne : s.toList.isEmpty = false) : 0 < s.size := by
  rcases Nat.eq_zero_or_pos s.size with h | h
  · exfalso
    rw [ByteArray.toList_eq] at hne
    have h2 : s.data.toList.length = 0 := by rw [Array.length_toList]; exact h
    rw [List.length_eq_zero_iff.1 h2] at hne; cases hne
  · exact h

theorem putAll_snoc (p : Int × Bool) (l : List UInt8) (c : UInt8) : putAll p (l ++ [c]) = putN (putAll p l) ((c.toNat : Int) % 16) := by simp [putAll]
theorem take_next {s : ByteArray} {k : Nat} (hk : k < s.data.size) : s.data.toList.take (k + 1) = s.data.toList.take k ++ [s.data[k]] := by
  rw [List.take_add_one, List.getElem?_eq_getElem (by simpa using hk)]; simp
/-- what was put together is a number from 0 to Most -/
theorem putAll_le (l : List UInt8) (hl : l.all isDig = true) : 0 ≤ (putAll (0, false) l).1 ∧ (putAll (0, false) l).1 ≤ 4611686018427387904 := by
  suffices h : ∀ l : List UInt8, l.all isDig = true → ∀ p : Int × Bool, 0 ≤ p.1 → p.1 ≤ 4611686018427387904 → 0 ≤ (putAll p l).1 ∧ (putAll p l).1 ≤ 4611686018427387904 from h l hl _ (by omega) (by simp)
  intro l
  induction l with
  | nil => intro _ p h0 h1; exact ⟨h0, h1⟩
  | cons c l ih =>
    intro hl p h0 h1
    simp only [List.all_cons, Bool.and_eq_true] at hl
    have hc : 48 ≤ (c.toNat : Int) ∧ (c.toNat : Int) ≤ 57 := by simpa [isDig] using hl.1
    have e : putAll p (c :: l) = putAll (putN p ((c.toNat : Int) % 16)) l := rfl
    rw [e]
    refine ih hl.2 _ ?_ ?_
    · unfold putN; split <;> simp <;> omega
    · unfold putN; split <;> simp <;> omega

theorem setCell_self {w : World} {g : Nat} {v x : Value} {e : TypeId} (h : w.heap[g]? = some (.cells #[v] e (0, 0))) : (w.setCell ⟨g, 0, none⟩ x).heap[g]? = some (.cells #[x] e (0, 0)) := by
  simp [World.setCell, Array.getElem?_modify, h]
theorem setCell_other {w : World} {g k : Nat} (x : Value) (h : k ≠ g) : (w.setCell ⟨g, 0, none⟩ x).heap[k]? = w.heap[k]? := Below.heap_setCell _ _ _ _ h
theorem cell_setCell_other {w : World} {g k j : Nat} (x : Value) (h : k ≠ g) : (w.setCell ⟨g, 0, none⟩ x).cell? ⟨k, j, none⟩ = w.cell? ⟨k, j, none⟩ := World.cell?_of_block (w := w) (setCell_other x h)

/-- one more digit is put -/
theorem ParseAt.step {s : ByteArray} {w wr : World} {k : Nat} (hp : ParseAt s w k wr) (hk : k < s.data.size) (hd : isDig s.data[k] = true) :
    ParseAt s w (k + 1) (if (4611686018427387904 - (s.data[k].toNat : Int) % 16) / 10 < (putAll (0, false) (s.data.toList.take k)).1 then wr.setCell ⟨w.heap.size + 1, 0, none⟩ (.bool true) else wr.setCell ⟨w.heap.size, 0, none⟩ (.int .i64 ((putAll (0, false) (s.data.toList.take k)).1 * 10 + (s.data[k].toNat : Int) % 16))) := by
  have e1 := take_next hk
  have e2 := putAll_snoc (0, false) (s.data.toList.take k) s.data[k]
  have ea : (s.data.toList.take (k + 1)).all isDig = true := by rw [e1, List.all_append, hp.d]; simp [hd]
  rw [← e1] at e2
  by_cases h : (4611686018427387904 - (s.data[k].toNat : Int) % 16) / 10 < (putAll (0, false) (s.data.toList.take k)).1
  · rw [if_pos h]
    have e3 : putAll (0, false) (s.data.toList.take (k + 1)) = ((putAll (0, false) (s.data.toList.take k)).1, true) := by rw [e2, putN, if_pos h]
    refine ⟨?_, ?_, ?_, ea, hp.b.setCell (by simp) _⟩
    · rw [setCell_other _ (by omega), e3]; exact hp.n
    · rw [e3]; exact setCell_self hp.o
    · intro j hj; rw [cell_setCell_other _ (by omega)]; exact hp.c j hj
  · rw [if_neg h]
    have e3 : putAll (0, false) (s.data.toList.take (k + 1)) = ((putAll (0, false) (s.data.toList.take k)).1 * 10 + (s.data[k].toNat : Int) % 16, (putAll (0, false) (s.data.toList.take k)).2) := by rw [e2, putN, if_neg h]
    refine ⟨?_, ?_, ?_, ea, hp.b.setCell (by simp) _⟩
    · rw [e3]; exact setCell_self hp.n
    · rw [setCell_other _ (by omega), e3]; exact hp.o
    · intro j hj; rw [cell_setCell_other _ (by omega)]; exact hp.c j hj

theorem isNum_of {s : ByteArray} (hne : s.toList.isEmpty = false) (hz : 1 < s.size → ∀ h : 0 < s.size, (((s[0]'h).toNat : Int) == 48) = false) : isNum s.data.toList = s.data.toList.all isDig := by
  have hsz := size_pos_of hne
  rw [ByteArray.toList_eq] at hne
  unfold isNum
  rw [hne]
  have : (decide (1 < s.data.toList.length) && s.data.toList.getD 0 0 == 48) = false := by
    by_cases h1 : 1 < s.size
    · have h2 := hz h1 hsz
      have h3 : s.data.toList.getD 0 0 = s[0]'hsz := by
        rw [List.getD_eq_getElem?_getD, List.getElem?_eq_getElem (by simpa using hsz)]; rfl
      rw [h3]
      rw [Bool.and_eq_false_iff]; right
      rw [beq_eq_false_iff_ne] at h2 ⊢
      intro h4; rw [h4] at h2; exact h2 rfl
    · rw [Bool.and_eq_false_iff]; left
      rw [decide_eq_false_iff_not, Array.length_toList]; exact h1
  rw [this]; simp

theorem parse_bad {s : ByteArray} {k : Nat} (hk : k < s.data.size) (hd : isDig s.data[k] = false) (hn : isNum s.data.toList = s.data.toList.all isDig) : parseV s.data.toList = 0 ∧ parseE s.data.toList = 20 := by
  have : isNum s.data.toList = false := by
    rw [hn, Bool.eq_false_iff]; intro h
    rw [List.all_eq_true] at h
    have := h s.data[k] (by simp)
    rw [hd] at this; cases this
  simp [parseV, parseE, this]
theorem parse_end {s : ByteArray} {k : Nat} (hk : ¬ k < s.size) (hd : (s.data.toList.take k).all isDig = true) (hn : isNum s.data.toList = s.data.toList.all isDig) :
    s.data.toList.take k = s.data.toList ∧ isNum s.data.toList = true := by
  have e : s.data.toList.take k = s.data.toList := List.take_of_length_le (by rw [Array.length_toList]; exact Nat.le_of_not_lt hk)
  rw [e] at hd
  exact ⟨e, by rw [hn, hd]⟩
theorem parse_over {l : List UInt8} (hn : isNum l = true) (h : (putAll (0, false) l).2 = true) : parseV l = 0 ∧ parseE l = 10 := by simp [parseV, parseE, hn, h]
theorem parse_fits {l : List UInt8} (hn : isNum l = true) (h : (putAll (0, false) l).2 = false) : parseV l = (putAll (0, false) l).1 ∧ parseE l = 0 := by simp [parseV, parseE, hn, h]

set_option maxHeartbeats 1600000 in
set_option maxRecDepth 100000 in
theorem parse_loop (s : ByteArray) (hs : s.size ≤ 140737488351232) (w : World) (hne : s.toList.isEmpty = false) (hz : 1 < s.size → ∀ h : 0 < s.size, (((s[0]'h).toNat : Int) == 48) = false) :
    Calls Tryz.prog 164 #[.string s] w fun e w' => e = .returned (.tuple #[.int .i64 (parseV s.data.toList), .int .i64 (parseE s.data.toList)]) ∧ Below w.heap.size w w' := by
  have hconv := run_bytes_of_string (P := Tryz.prog) ((w.alloc (.cells #[.int .i64 0] 3)).alloc (.cells #[.bool false] 4)) 9 50 5 s Tryz.underlying9 Tryz.underlying50 Tryz.underlying5
  have hsz := size_pos_of hne
  have HN := Lib.hid (isNum_of hne hz)
  by_cases h1 : 1 < s.size
  all_goals (first | replace hz := hz h1 | clear hz)
  all_goals
    go_enter Tryz.func164, Tryz.ntmps164
    go_wp2_with fail
    go_loopw [25] (fun i wr => ∃ k : Nat, k ≤ s.size ∧ i = .int .i64 k ∧ ParseAt s w k wr) (fun i _ => s.size - (intOf i).toNat)
    case atStart =>
      refine ⟨0, Nat.zero_le _, rfl, ?_, ?_, ?_, rfl, ?_⟩
      · show (((w.heap.push _).push _).push _)[w.heap.size]? = _
        simp only [Array.getElem?_push, Array.size_push]
        rw [if_neg (by omega), if_neg (by omega), if_pos trivial]; rfl
      · show (((w.heap.push _).push _).push _)[w.heap.size + 1]? = _
        simp only [Array.getElem?_push, Array.size_push]
        rw [if_neg (by omega), if_pos trivial]; rfl
      · intro j hj
        have := World.cell?_alloc_mark ((w.alloc (.cells #[.int .i64 0] 3)).alloc (.cells #[.bool false] 4)) (bytesRow s (grownCap ((w.alloc (.cells #[.int .i64 0] 3)).alloc (.cells #[.bool false] 4)) s.size 0 5)) 5 ((bytesRow s (grownCap ((w.alloc (.cells #[.int .i64 0] 3)).alloc (.cells #[.bool false] 4)) s.size 0 5)).size, (bytesRow s (grownCap ((w.alloc (.cells #[.int .i64 0] 3)).alloc (.cells #[.bool false] 4)) s.size 0 5)).size + 1) j
        rw [bytesRow_at _ _ _ hj] at this
        simpa using this
      · exact (((((Below.refl _ _).alloc (Nat.le_refl _) _).alloc (by simp) _).alloc (by simp; omega) _).drew)
    case round =>
      clear hconv
      obtain ⟨k, hk, rfl, hp⟩ := hrel
      have hnc := cell_of_cells hp.n 0
      have hoc := cell_of_cells hp.o 0
      have hnf := frozen_of_cells hp.n 0
      have hof := frozen_of_cells hp.o 0
      by_cases hlt : k < s.size
      · have hcc := hp.c k hlt
        have hle := putAll_le _ hp.d
        have HP := Lib.hid (fun hd => hp.step hlt hd)
        have HX := Lib.hid (fun hd => parse_bad (s := s) (k := k) hlt hd HN.out)
        have HB := Lib.hid hp.b
        clear hp
        generalize s.data[k] = c at *
        generalize (putAll (0, false) (s.data.toList.take k)).1 = n at *
        generalize (putAll (0, false) (s.data.toList.take k)).2 = o at *
        obtain ⟨hle0, hle1⟩ := hle
        go_wp2_with fail
        · have hx := HX.out (by unfold isDig; rw [decide_eq_false_iff_not]; omega)
          go_ret2
          exact ⟨pair_int ⟨hx.1.symm, hx.2.symm⟩, HB.out⟩
        · have hd : isDig c = true := by unfold isDig; rw [decide_eq_true_iff]; omega
          refine (put_any ((c.toNat : Int) % 16) n o w.heap.size (w.heap.size + 1) wr (by omega) (by omega) hle0 hle1 hnc hoc hnf hof).mono ?_
          rintro e w' ⟨rfl, hw⟩
          have HW := Lib.hid hw
          clear hw
          go_wp2_with fail
          go_roundw
          case rel => exact ⟨k + 1, by omega, by go_num, by rw [HW.out]; exact HP.out hd⟩
          case measure => simp [intOf]; omega
        · have hx := HX.out (by unfold isDig; rw [decide_eq_false_iff_not]; omega)
          go_ret2
          exact ⟨pair_int ⟨hx.1.symm, hx.2.symm⟩, HB.out⟩
      · obtain ⟨e1, e2⟩ := parse_end hlt hp.d HN.out
        have HB := Lib.hid hp.b
        rw [e1] at hnc hoc
        have HF := Lib.hid (parse_fits e2)
        have HO := Lib.hid (parse_over e2)
        clear hp e1 e2
        generalize (putAll (0, false) s.data.toList).1 = n at *
        generalize (putAll (0, false) s.data.toList).2 = o at *
        cases o
        · go_wp2_with fail
          have hx := HF.out trivial
          go_ret2
          exact ⟨pair_int ⟨hx.1.symm, hx.2.symm⟩, HB.out⟩
        · go_wp2_with fail
          have hx := HO.out trivial
          go_ret2
          exact ⟨pair_int ⟨hx.1.symm, hx.2.symm⟩, HB.out⟩

theorem byte_toNat_eq {c : UInt8} {n : Nat} (h : ((c.toNat : Int) == (n : Int)) = true) (hn : n < 256) : c = UInt8.ofNat n := by
  rw [beq_iff_eq] at h
  apply UInt8.toNat_inj.1
  rw [UInt8.toNat_ofNat', Nat.mod_eq_of_lt hn]; omega

/-- no numeral: it has no digits, or too many zeros at its head -/
theorem parse_none {s : ByteArray} (h : s.toList = [] ∨ (1 < s.size ∧ ∃ h : 0 < s.size, (((s[0]'h).toNat : Int) == 48) = true)) : parseV s.data.toList = 0 ∧ parseE s.data.toList = 20 := by
  have : isNum s.data.toList = false := by
    rcases h with h | ⟨h1, h2, h3⟩
    · rw [ByteArray.toList_eq] at h; rw [h]; rfl
    · have h5 : s.data.toList.getD 0 0 = s[0]'h2 := by
        rw [List.getD_eq_getElem?_getD, List.getElem?_eq_getElem (by simpa using h2)]; rfl
      have h6 := byte_toNat_eq (n := 48) h3 (by omega)
      unfold isNum
      rw [h5, h6, decide_eq_true (by rw [Array.length_toList]; exact h1)]; simp
  simp [parseV, parseE, this]

set_option maxHeartbeats 800000 in
theorem parse_any (s : ByteArray) (hs : s.size ≤ 140737488351232) (w : World) :
    Calls Tryz.prog 164 #[.string s] w fun e w' => e = .returned (.tuple #[.int .i64 (parseV s.data.toList), .int .i64 (parseE s.data.toList)]) ∧ Below w.heap.size w w' := by
  by_cases h0 : s.toList = []
  · have HX := Lib.hid (parse_none (Or.inl h0))
    go_enter Tryz.func164, Tryz.ntmps164
    go_wp2_with fail
    have hx := HX.out
    go_ret2
    exact ⟨pair_int ⟨hx.1.symm, hx.2.symm⟩, Below.refl _ _⟩
  · have hne : s.toList.isEmpty = false := by cases h : s.toList <;> simp_all
    by_cases h1 : 1 < s.size
    · have hsz := size_pos_of hne
      cases hc : (((s[0]'hsz).toNat : Int) == 48) with
      | true =>
        have HX := Lib.hid (parse_none (Or.inr ⟨h1, hsz, hc⟩))
        go_enter Tryz.func164, Tryz.ntmps164
        go_wp2_with fail
        have hx := HX.out
        go_ret2
        exact ⟨pair_int ⟨hx.1.symm, hx.2.symm⟩, Below.refl _ _⟩
      | false => exact parse_loop s hs w hne (fun _ _ => hc)
    · exact parse_loop s hs w hne (fun h => absurd h h1)
end Go.Proofs.YtmcbolkpbklfeaaGreatDoor
