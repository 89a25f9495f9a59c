import Derived.Test.YtbchcipjpcdhfaaGreatDoorBase
import Derived.Deep.QuietTactic
import Derived.Test.YtbchcipjpcdhfaaGreatDoorShelf
import Derived.Lib.LaidTab
import Derived.Lib.ItoaLen
import Derived.WalkLawsBesides
/- merged by wip/merge.py from: NumPlain NumParse NumMay Tab NumText NumCanon LexA LexB -/
/- What the functions of layer 1 answer, in plain words: no condition. -/
namespace Go.Proofs.YtbchcipjpcdhfaaGreatDoor
open Go.RowKit

/-- whether a number may be -/
def mayB (n : Int) : Bool := decide (-4611686018427387904 ≤ n ∧ n ≤ 4611686018427387904)
theorem mayB_iff {n : Int} : mayB n = true ↔ (-4611686018427387904 ≤ n ∧ n ≤ 4611686018427387904) := by simp [mayB]
theorem mayB_no {n : Int} : mayB n = false ↔ (n < -4611686018427387904 ∨ 4611686018427387904 < n) := by
  rw [Bool.eq_false_iff, Ne, mayB_iff]; omega

/-- what 'within' answers -/
def winB (n : Int) (zs : List Int) : Bool := zs.all mayB && mayB n
def winV (n : Int) (zs : List Int) : Int := if winB n zs then n else 0
def winE (n : Int) (zs : List Int) : Int := if winB n zs then 0 else 10
theorem winV_yes {n : Int} {zs : List Int} (h : ∀ x ∈ zs ++ [n], mayB x = true) : winV n zs = n ∧ winE n zs = 0 := by
  have : winB n zs = true := by simp [winB]; exact ⟨fun x hx => h x (by simp [hx]), h n (by simp)⟩
  simp [winV, winE, this]
theorem winV_no {n x : Int} {zs : List Int} (hx : x ∈ zs ++ [n]) (h : mayB x = false) : winV n zs = 0 ∧ winE n zs = 10 := by
  have : winB n zs = false := by
    rw [Bool.eq_false_iff]; intro hw
    simp [winB] at hw
    rcases List.mem_append.1 hx with h1 | h1
    · rw [hw.1 x h1] at h; cases h
    · simp at h1; subst h1; rw [hw.2] at h; cases h
  simp [winV, winE, this]

/-- P1.1 -/
def okAdd (a b : Int) : Bool := mayB a && mayB b && mayB (a + b)
def addV (a b : Int) : Int := if okAdd a b then a + b else 0
def addE (a b : Int) : Int := if okAdd a b then 0 else 10
def okSub (a b : Int) : Bool := mayB a && mayB b && mayB (a - b)
def subV (a b : Int) : Int := if okSub a b then a - b else 0
def subE (a b : Int) : Int := if okSub a b then 0 else 10
theorem winB_add (a b : Int) : winB (wrap64 (a + b)) [a, b] = okAdd a b := by
  rw [Bool.eq_iff_iff]; simp only [winB, okAdd, List.all_cons, List.all_nil, Bool.and_true, Bool.and_eq_true, mayB_iff]; unfold wrap64; omega
theorem winB_sub (a b : Int) : winB (wrap64 (a - b)) [a, b] = okSub a b := by
  rw [Bool.eq_iff_iff]; simp only [winB, okSub, List.all_cons, List.all_nil, Bool.and_true, Bool.and_eq_true, mayB_iff]; unfold wrap64; omega
theorem okAdd_wrap {a b : Int} (h : okAdd a b = true) : wrap64 (a + b) = a + b := by
  simp only [okAdd, Bool.and_eq_true, mayB_iff] at h; unfold wrap64; omega
theorem okSub_wrap {a b : Int} (h : okSub a b = true) : wrap64 (a - b) = a - b := by
  simp only [okSub, Bool.and_eq_true, mayB_iff] at h; unfold wrap64; omega
theorem win_add (a b : Int) : winV (wrap64 (a + b)) [a, b] = addV a b ∧ winE (wrap64 (a + b)) [a, b] = addE a b := by
  unfold winV winE addV addE; rw [winB_add]
  refine ⟨?_, rfl⟩
  by_cases h : okAdd a b = true
  · simp [h, okAdd_wrap h]
  · simp [h]
theorem win_sub (a b : Int) : winV (wrap64 (a - b)) [a, b] = subV a b ∧ winE (wrap64 (a - b)) [a, b] = subE a b := by
  unfold winV winE subV subE; rw [winB_sub]
  refine ⟨?_, rfl⟩
  by_cases h : okSub a b = true
  · simp [h, okSub_wrap h]
  · simp [h]
theorem addV_I64 (a b : Int) : I64 (addV a b) := by
  unfold addV; by_cases h : okAdd a b = true
  · rw [if_pos h, ← okAdd_wrap h]; exact I64_wrap _
  · rw [if_neg h]; unfold I64; omega
theorem subV_I64 (a b : Int) : I64 (subV a b) := by
  unfold subV; by_cases h : okSub a b = true
  · rw [if_pos h, ← okSub_wrap h]; exact I64_wrap _
  · rw [if_neg h]; unfold I64; omega

/-- P1.2: the digits put together, and whether that went too far on the way: what 'put' does, digit by digit -/
def putN (p : Int × Bool) (d : Int) : Int × Bool := if (4611686018427387904 - d) / 10 < p.1 then (p.1, true) else (p.1 * 10 + d, p.2)
def putAll (p : Int × Bool) (l : List UInt8) : Int × Bool := l.foldl (fun p c => putN p ((c.toNat : Int) % 16)) p
def isDig (c : UInt8) : Bool := decide (48 ≤ (c.toNat : Int) ∧ (c.toNat : Int) ≤ 57)
theorem isDig_iff {c : UInt8} : isDig c = true ↔ 48 ≤ (c.toNat : Int) ∧ (c.toNat : Int) ≤ 57 := by simp [isDig]
theorem isDig_no {c : UInt8} : isDig c = false ↔ ((c.toNat : Int) < 48 ∨ 57 < (c.toNat : Int)) := by
  rw [Bool.eq_false_iff, Ne, isDig_iff]; omega
def isNum (l : List UInt8) : Bool := !l.isEmpty && !(decide (1 < l.length) && l.getD 0 0 == 48) && l.all isDig
def parseV (l : List UInt8) : Int := if isNum l then (if (putAll (0, false) l).2 then 0 else (putAll (0, false) l).1) else 0
def parseE (l : List UInt8) : Int := if isNum l then (if (putAll (0, false) l).2 then 10 else 0) else 20

/-- P1.3 -/
def sumStep (most : Int) (p : Option Int) (n : Int) : Option Int := p.bind fun s => if mayB n && decide (n.natAbs < most - s) then some (s + n.natAbs + 1) else none
def sumAll (most : Int) (l : List Int) : Option Int := l.foldl (sumStep most) (some 0)
def within0 (most : Int) : Int := min (max most 0) 4611686018427387904
def sumV (l : List Int) (most : Int) : Int := (sumAll (within0 most) l).getD 0
def sumB (l : List Int) (most : Int) : Bool := (sumAll (within0 most) l).isSome
end Go.Proofs.YtbchcipjpcdhfaaGreatDoor
/- The walks of layer 1's Parse. -/
namespace Go.Proofs.YtbchcipjpcdhfaaGreatDoor
open Go.RowKit

set_option maxHeartbeats 400000 in
theorem put_any (d n : Int) (o : Bool) (bn bo : Nat) (w : World) (hd0 : 0 ≤ d) (hd9 : d ≤ 9) (hn0 : 0 ≤ n) (hn1 : n ≤ 4611686018427387904)
    (hn : w.cell? ⟨bn, 0, none⟩ = some (.int .i64 n)) (ho : w.cell? ⟨bo, 0, none⟩ = some (.bool o)) (fn : w.frozen? ⟨bn, 0, none⟩ = false) (fo : w.frozen? ⟨bo, 0, none⟩ = false) :
    Calls Tryz.prog 100 #[.int .i64 d, .pointer (some ⟨bn, 0, none⟩), .pointer (some ⟨bo, 0, none⟩)] w fun e w' => e = .returned (.tuple #[]) ∧
      w' = (if (4611686018427387904 - d) / 10 < n then w.setCell ⟨bo, 0, none⟩ (.bool true) else w.setCell ⟨bn, 0, none⟩ (.int .i64 (n * 10 + d))) := by
  by_cases h : (4611686018427387904 - d) / 10 < n
  · rw [if_pos h]
    go_enter Tryz.func100, Tryz.ntmps100
    go_wp2
    exact ret0 rfl rfl ⟨rfl, rfl⟩
  · rw [if_neg h]
    go_enter Tryz.func100, Tryz.ntmps100
    go_wp2
    go_end0
    exact ⟨rfl, rfl⟩

/-- what stands in memory after k digits -/
structure ParseAt (s : ByteArray) (w : World) (k : Nat) (wr : World) : Prop where
  n : wr.heap[w.heap.size]? = some (.cells #[.int .i64 (putAll (0, false) (s.data.toList.take k)).1] 3 (0, 0))
  o : wr.heap[w.heap.size + 1]? = some (.cells #[.bool (putAll (0, false) (s.data.toList.take k)).2] 4 (0, 0))
  c : ∀ j (hj : j < s.data.size), wr.cell? ⟨w.heap.size + 1 + 1, j, none⟩ = some (.int .u8 (s.data[j].toNat : Int))
  d : (s.data.toList.take k).all isDig = true
  b : Below w.heap.size w wr

theorem size_pos_of {s : ByteArray} (hne : s.toList.isEmpty = false) : 0 < s.size := by
  rcases Nat.eq_zero_or_pos s.size with h | h
  · exfalso
    rw [ByteArray.toList_eq] at hne
    have h2 : s.data.toList.length = 0 := by rw [Array.length_toList]; exact h
    rw [List.length_eq_zero_iff.1 h2] at hne; cases hne
  · exact h

theorem putAll_snoc (p : Int × Bool) (l : List UInt8) (c : UInt8) : putAll p (l ++ [c]) = putN (putAll p l) ((c.toNat : Int) % 16) := by simp [putAll]
theorem take_next {s : ByteArray} {k : Nat} (hk : k < s.data.size) : s.data.toList.take (k + 1) = s.data.toList.take k ++ [s.data[k]] := by
  rw [List.take_add_one, List.getElem?_eq_getElem (by simpa using hk)]; simp
/-- what was put together is a number from 0 to Most -/
theorem putAll_le (l : List UInt8) (hl : l.all isDig = true) : 0 ≤ (putAll (0, false) l).1 ∧ (putAll (0, false) l).1 ≤ 4611686018427387904 := by
  suffices h : ∀ l : List UInt8, l.all isDig = true → ∀ p : Int × Bool, 0 ≤ p.1 → p.1 ≤ 4611686018427387904 → 0 ≤ (putAll p l).1 ∧ (putAll p l).1 ≤ 4611686018427387904 from h l hl _ (by omega) (by simp)
  intro l
  induction l with
  | nil => intro _ p h0 h1; exact ⟨h0, h1⟩
  | cons c l ih =>
    intro hl p h0 h1
    simp only [List.all_cons, Bool.and_eq_true] at hl
    have hc : 48 ≤ (c.toNat : Int) ∧ (c.toNat : Int) ≤ 57 := by simpa [isDig] using hl.1
    have e : putAll p (c :: l) = putAll (putN p ((c.toNat : Int) % 16)) l := rfl
    rw [e]
    refine ih hl.2 _ ?_ ?_
    · unfold putN; split <;> simp <;> omega
    · unfold putN; split <;> simp <;> omega

theorem setCell_self {w : World} {g : Nat} {v x : Value} {e : TypeId} (h : w.heap[g]? = some (.cells #[v] e (0, 0))) : (w.setCell ⟨g, 0, none⟩ x).heap[g]? = some (.cells #[x] e (0, 0)) := by
  simp [World.setCell, Array.getElem?_modify, h]
theorem setCell_other {w : World} {g k : Nat} (x : Value) (h : k ≠ g) : (w.setCell ⟨g, 0, none⟩ x).heap[k]? = w.heap[k]? := Below.heap_setCell _ _ _ _ h
theorem cell_setCell_other {w : World} {g k j : Nat} (x : Value) (h : k ≠ g) : (w.setCell ⟨g, 0, none⟩ x).cell? ⟨k, j, none⟩ = w.cell? ⟨k, j, none⟩ := World.cell?_of_block (w := w) (setCell_other x h)

/-- one more digit is put -/
theorem ParseAt.step {s : ByteArray} {w wr : World} {k : Nat} (hp : ParseAt s w k wr) (hk : k < s.data.size) (hd : isDig s.data[k] = true) :
    ParseAt s w (k + 1) (if (4611686018427387904 - (s.data[k].toNat : Int) % 16) / 10 < (putAll (0, false) (s.data.toList.take k)).1 then wr.setCell ⟨w.heap.size + 1, 0, none⟩ (.bool true) else wr.setCell ⟨w.heap.size, 0, none⟩ (.int .i64 ((putAll (0, false) (s.data.toList.take k)).1 * 10 + (s.data[k].toNat : Int) % 16))) := by
  have e1 := take_next hk
  have e2 := putAll_snoc (0, false) (s.data.toList.take k) s.data[k]
  have ea : (s.data.toList.take (k + 1)).all isDig = true := by rw [e1, List.all_append, hp.d]; simp [hd]
  rw [← e1] at e2
  by_cases h : (4611686018427387904 - (s.data[k].toNat : Int) % 16) / 10 < (putAll (0, false) (s.data.toList.take k)).1
  · rw [if_pos h]
    have e3 : putAll (0, false) (s.data.toList.take (k + 1)) = ((putAll (0, false) (s.data.toList.take k)).1, true) := by rw [e2, putN, if_pos h]
    refine ⟨?_, ?_, ?_, ea, hp.b.setCell (by simp) _⟩
    · rw [setCell_other _ (by omega), e3]; exact hp.n
    · rw [e3]; exact setCell_self hp.o
    · intro j hj; rw [cell_setCell_other _ (by omega)]; exact hp.c j hj
  · rw [if_neg h]
    have e3 : putAll (0, false) (s.data.toList.take (k + 1)) = ((putAll (0, false) (s.data.toList.take k)).1 * 10 + (s.data[k].toNat : Int) % 16, (putAll (0, false) (s.data.toList.take k)).2) := by rw [e2, putN, if_neg h]
    refine ⟨?_, ?_, ?_, ea, hp.b.setCell (by simp) _⟩
    · rw [e3]; exact setCell_self hp.n
    · rw [setCell_other _ (by omega), e3]; exact hp.o
    · intro j hj; rw [cell_setCell_other _ (by omega)]; exact hp.c j hj

theorem isNum_of {s : ByteArray} (hne : s.toList.isEmpty = false) (hz : 1 < s.size → ∀ h : 0 < s.size, (((s[0]'h).toNat : Int) == 48) = false) : isNum s.data.toList = s.data.toList.all isDig := by
  have hsz := size_pos_of hne
  rw [ByteArray.toList_eq] at hne
  unfold isNum
  rw [hne]
  have : (decide (1 < s.data.toList.length) && s.data.toList.getD 0 0 == 48) = false := by
    by_cases h1 : 1 < s.size
    · have h2 := hz h1 hsz
      have h3 : s.data.toList.getD 0 0 = s[0]'hsz := by
        rw [List.getD_eq_getElem?_getD, List.getElem?_eq_getElem (by simpa using hsz)]; rfl
      rw [h3]
      rw [Bool.and_eq_false_iff]; right
      rw [beq_eq_false_iff_ne] at h2 ⊢
      intro h4; rw [h4] at h2; exact h2 rfl
    · rw [Bool.and_eq_false_iff]; left
      rw [decide_eq_false_iff_not, Array.length_toList]; exact h1
  rw [this]; simp

theorem parse_bad {s : ByteArray} {k : Nat} (hk : k < s.data.size) (hd : isDig s.data[k] = false) (hn : isNum s.data.toList = s.data.toList.all isDig) : parseV s.data.toList = 0 ∧ parseE s.data.toList = 20 := by
  have : isNum s.data.toList = false := by
    rw [hn, Bool.eq_false_iff]; intro h
    rw [List.all_eq_true] at h
    have := h s.data[k] (by simp)
    rw [hd] at this; cases this
  simp [parseV, parseE, this]
theorem parse_end {s : ByteArray} {k : Nat} (hk : ¬ k < s.size) (hd : (s.data.toList.take k).all isDig = true) (hn : isNum s.data.toList = s.data.toList.all isDig) :
    s.data.toList.take k = s.data.toList ∧ isNum s.data.toList = true := by
  have e : s.data.toList.take k = s.data.toList := List.take_of_length_le (by rw [Array.length_toList]; exact Nat.le_of_not_lt hk)
  rw [e] at hd
  exact ⟨e, by rw [hn, hd]⟩
theorem parse_over {l : List UInt8} (hn : isNum l = true) (h : (putAll (0, false) l).2 = true) : parseV l = 0 ∧ parseE l = 10 := by simp [parseV, parseE, hn, h]
theorem parse_fits {l : List UInt8} (hn : isNum l = true) (h : (putAll (0, false) l).2 = false) : parseV l = (putAll (0, false) l).1 ∧ parseE l = 0 := by simp [parseV, parseE, hn, h]

set_option maxHeartbeats 1600000 in
set_option maxRecDepth 100000 in
theorem parse_loop (s : ByteArray) (hs : s.size ≤ 140737488351232) (w : World) (hne : s.toList.isEmpty = false) (hz : 1 < s.size → ∀ h : 0 < s.size, (((s[0]'h).toNat : Int) == 48) = false) :
    Calls Tryz.prog 78 #[.string s] w fun e w' => e = .returned (.tuple #[.int .i64 (parseV s.data.toList), .int .i64 (parseE s.data.toList)]) ∧ Below w.heap.size w w' := by
  have hconv := run_bytes_of_string (P := Tryz.prog) ((w.alloc (.cells #[.int .i64 0] 3)).alloc (.cells #[.bool false] 4)) 9 85 5 s Tryz.underlying9 Tryz.underlying85 Tryz.underlying5
  have hsz := size_pos_of hne
  have HN := Lib.hid (isNum_of hne hz)
  by_cases h1 : 1 < s.size
  all_goals (first | replace hz := hz h1 | clear hz)
  all_goals
    go_enter Tryz.func78, Tryz.ntmps78
    go_wp2_with fail
    go_loopw [25] (fun i wr => ∃ k : Nat, k ≤ s.size ∧ i = .int .i64 k ∧ ParseAt s w k wr) (fun i _ => s.size - (intOf i).toNat)
    case atStart =>
      refine ⟨0, Nat.zero_le _, rfl, ?_, ?_, ?_, rfl, ?_⟩
      · show (((w.heap.push _).push _).push _)[w.heap.size]? = _
        simp only [Array.getElem?_push, Array.size_push]
        rw [if_neg (by omega), if_neg (by omega), if_pos trivial]; rfl
      · show (((w.heap.push _).push _).push _)[w.heap.size + 1]? = _
        simp only [Array.getElem?_push, Array.size_push]
        rw [if_neg (by omega), if_pos trivial]; rfl
      · intro j hj
        have := World.cell?_alloc_mark ((w.alloc (.cells #[.int .i64 0] 3)).alloc (.cells #[.bool false] 4)) (bytesRow s (grownCap ((w.alloc (.cells #[.int .i64 0] 3)).alloc (.cells #[.bool false] 4)) s.size 0 5)) 5 ((bytesRow s (grownCap ((w.alloc (.cells #[.int .i64 0] 3)).alloc (.cells #[.bool false] 4)) s.size 0 5)).size, (bytesRow s (grownCap ((w.alloc (.cells #[.int .i64 0] 3)).alloc (.cells #[.bool false] 4)) s.size 0 5)).size + 1) j
        rw [bytesRow_at _ _ _ hj] at this
        simpa using this
      · exact (((((Below.refl _ _).alloc (Nat.le_refl _) _).alloc (by simp) _).alloc (by simp; omega) _).drew)
    case round =>
      clear hconv
      obtain ⟨k, hk, rfl, hp⟩ := hrel
      have hnc := cell_of_cells hp.n 0
      have hoc := cell_of_cells hp.o 0
      have hnf := frozen_of_cells hp.n 0
      have hof := frozen_of_cells hp.o 0
      by_cases hlt : k < s.size
      · have hcc := hp.c k hlt
        have hle := putAll_le _ hp.d
        have HP := Lib.hid (fun hd => hp.step hlt hd)
        have HX := Lib.hid (fun hd => parse_bad (s := s) (k := k) hlt hd HN.out)
        have HB := Lib.hid hp.b
        clear hp
        generalize s.data[k] = c at *
        generalize (putAll (0, false) (s.data.toList.take k)).1 = n at *
        generalize (putAll (0, false) (s.data.toList.take k)).2 = o at *
        obtain ⟨hle0, hle1⟩ := hle
        go_wp2_with fail
        · have hx := HX.out (by unfold isDig; rw [decide_eq_false_iff_not]; omega)
          go_ret2
          exact ⟨pair_int ⟨hx.1.symm, hx.2.symm⟩, HB.out⟩
        · have hd : isDig c = true := by unfold isDig; rw [decide_eq_true_iff]; omega
          refine (put_any ((c.toNat : Int) % 16) n o w.heap.size (w.heap.size + 1) wr (by omega) (by omega) hle0 hle1 hnc hoc hnf hof).mono ?_
          rintro e w' ⟨rfl, hw⟩
          have HW := Lib.hid hw
          clear hw
          go_wp2_with fail
          go_roundw
          case rel => exact ⟨k + 1, by omega, by go_num, by rw [HW.out]; exact HP.out hd⟩
          case measure => simp [intOf]; omega
        · have hx := HX.out (by unfold isDig; rw [decide_eq_false_iff_not]; omega)
          go_ret2
          exact ⟨pair_int ⟨hx.1.symm, hx.2.symm⟩, HB.out⟩
      · obtain ⟨e1, e2⟩ := parse_end hlt hp.d HN.out
        have HB := Lib.hid hp.b
        rw [e1] at hnc hoc
        have HF := Lib.hid (parse_fits e2)
        have HO := Lib.hid (parse_over e2)
        clear hp e1 e2
        generalize (putAll (0, false) s.data.toList).1 = n at *
        generalize (putAll (0, false) s.data.toList).2 = o at *
        cases o
        · go_wp2_with fail
          have hx := HF.out trivial
          go_ret2
          exact ⟨pair_int ⟨hx.1.symm, hx.2.symm⟩, HB.out⟩
        · go_wp2_with fail
          have hx := HO.out trivial
          go_ret2
          exact ⟨pair_int ⟨hx.1.symm, hx.2.symm⟩, HB.out⟩

theorem byte_toNat_eq {c : UInt8} {n : Nat} (h : ((c.toNat : Int) == (n : Int)) = true) (hn : n < 256) : c = UInt8.ofNat n := by
  rw [beq_iff_eq] at h
  apply UInt8.toNat_inj.1
  rw [UInt8.toNat_ofNat', Nat.mod_eq_of_lt hn]; omega

/-- no numeral: it has no digits, or too many zeros at its head -/
theorem parse_none {s : ByteArray} (h : s.toList = [] ∨ (1 < s.size ∧ ∃ h : 0 < s.size, (((s[0]'h).toNat : Int) == 48) = true)) : parseV s.data.toList = 0 ∧ parseE s.data.toList = 20 := by
  have : isNum s.data.toList = false := by
    rcases h with h | ⟨h1, h2, h3⟩
    · rw [ByteArray.toList_eq] at h; rw [h]; rfl
    · have h5 : s.data.toList.getD 0 0 = s[0]'h2 := by
        rw [List.getD_eq_getElem?_getD, List.getElem?_eq_getElem (by simpa using h2)]; rfl
      have h6 := byte_toNat_eq (n := 48) h3 (by omega)
      unfold isNum
      rw [h5, h6, decide_eq_true (by rw [Array.length_toList]; exact h1)]; simp
  simp [parseV, parseE, this]

set_option maxHeartbeats 800000 in
theorem parse_any (s : ByteArray) (hs : s.size ≤ 140737488351232) (w : World) :
    Calls Tryz.prog 78 #[.string s] w fun e w' => e = .returned (.tuple #[.int .i64 (parseV s.data.toList), .int .i64 (parseE s.data.toList)]) ∧ Below w.heap.size w w' := by
  by_cases h0 : s.toList = []
  · have HX := Lib.hid (parse_none (Or.inl h0))
    go_enter Tryz.func78, Tryz.ntmps78
    go_wp2_with fail
    have hx := HX.out
    go_ret2
    exact ⟨pair_int ⟨hx.1.symm, hx.2.symm⟩, Below.refl _ _⟩
  · have hne : s.toList.isEmpty = false := by cases h : s.toList <;> simp_all
    by_cases h1 : 1 < s.size
    · have hsz := size_pos_of hne
      cases hc : (((s[0]'hsz).toNat : Int) == 48) with
      | true =>
        have HX := Lib.hid (parse_none (Or.inr ⟨h1, hsz, hc⟩))
        go_enter Tryz.func78, Tryz.ntmps78
        go_wp2_with fail
        have hx := HX.out
        go_ret2
        exact ⟨pair_int ⟨hx.1.symm, hx.2.symm⟩, Below.refl _ _⟩
      | false => exact parse_loop s hs w hne (fun _ _ => hc)
    · exact parse_loop s hs w hne (fun h => absurd h h1)
end Go.Proofs.YtbchcipjpcdhfaaGreatDoor
/- The walks of layer 1's functions: what each call answers, and that what was there is as it was. -/
namespace Go.Proofs.YtbchcipjpcdhfaaGreatDoor
open Go.RowKit

set_option maxHeartbeats 400000 in
theorem may_any (n : Int) (h : I64 n) (w : World) :
    Calls Tryz.prog 109 #[.int .i64 n] w fun e w' => e = .returned (.bool (mayB n)) ∧ w = w' := by
  have h1 := h.lo
  have h2 := h.hi
  clear h
  go_enter Tryz.func109, Tryz.ntmps109
  go_wp2
  all_goals go_ret
  all_goals refine ⟨ret_bool ?_, rfl⟩
  · symm; rw [mayB_iff]; omega
  · symm; rw [mayB_iff]; omega
  · rw [Bool.eq_iff_iff, mayB_iff]; simp; omega

end Go.Proofs.YtbchcipjpcdhfaaGreatDoor
/- strconv's table of powers of ten: that it holds its numbers, carried from world to world. -/
namespace Go.Proofs.YtbchcipjpcdhfaaGreatDoor
open Go.RowKit

/-- strconv's table holds its numbers -/
def TabOk (w : World) : Prop := Lib.TabIs Tryz.prog w "internal/strconv.uint64pow10" .u64 Lib.pow10Tab
theorem gTab : Tryz.prog.globalNamed "internal/strconv.uint64pow10" = some 0 := by kernel_rfl
theorem TabOk.keep {w w' : World} (h : TabOk w) (hk : w'.heap[0]? = w.heap[0]?) : TabOk w' := by
  unfold TabOk Lib.TabIs World.var? at *
  rw [gTab] at *
  simp only [Option.bind_some] at *
  rw [hk]; exact h
theorem TabOk.lt {w : World} (h : TabOk w) : 0 < w.heap.size := by
  unfold TabOk Lib.TabIs World.var? at h
  rw [gTab] at h
  simp only [Option.bind_some] at h
  rcases Nat.lt_or_ge 0 w.heap.size with h1 | h1
  · exact h1
  · rw [Array.getElem?_eq_none h1] at h; cases h
theorem TabOk.on {w w' : World} (h : TabOk w) (hb : Below w.heap.size w w') : TabOk w' := h.keep (hb.block _ h.lt)

theorem grow_below (w : World) (k : Nat) (os : Array Obj) : Below w.heap.size w (Go.Sort.grow (w.drewN k) os) :=
  ⟨rfl, rfl, rfl, by simp [Go.Sort.grow, World.drewN], fun i hi => by
    show (w.heap ++ os)[i]? = _
    rw [Array.getElem?_append_left hi]⟩

/-- Itoa, at every int -/
theorem itoa_any (n : Int) (hn : I64 n) (w : World) (ht : TabOk w) :
    Calls Tryz.prog 110 #[.int .i64 n] w fun e w' => e = .returned (.string ⟨(Lib.itoa n).toArray⟩) ∧ Below w.heap.size w w' :=
  (Tryz.strconv_Itoa n hn.1 hn.2 w ht).mono fun _ _ ⟨he, k, os, hw⟩ => ⟨he, by rw [hw]; exact grow_below w k os⟩
end Go.Proofs.YtbchcipjpcdhfaaGreatDoor
/- Text. -/
namespace Go.Proofs.YtbchcipjpcdhfaaGreatDoor
open Go.RowKit

def textL (n : Int) : List UInt8 := if mayB n then (if n < 0 then [40, 45, 32] ++ Lib.itoa (-n) ++ [41] else Lib.itoa n) else []
def textE (n : Int) : Int := if mayB n then 0 else 10
theorem text_neg {n : Int} (hm : mayB n = true) (h : n < 0) : textL n = [40, 45, 32] ++ Lib.itoa (-n) ++ [41] ∧ textE n = 0 := by simp [textL, textE, hm, h]
theorem text_pos {n : Int} (hm : mayB n = true) (h : ¬ n < 0) : textL n = Lib.itoa n ∧ textE n = 0 := by simp [textL, textE, hm, h]
theorem text_no {n : Int} (hm : mayB n = false) : textL n = [] ∧ textE n = 10 := by simp [textL, textE, hm]

set_option maxHeartbeats 800000 in
theorem text_any (n : Int) (hn : I64 n) (w : World) (ht : TabOk w) :
    Calls Tryz.prog 88 #[.int .i64 n] w fun e w' => e = .returned (.tuple #[.string ⟨(textL n).toArray⟩, .int .i64 (textE n)]) ∧ Below w.heap.size w w' := by
  have HT := Lib.hid ht
  clear ht
  cases hm : mayB n with
  | true =>
    have hb := mayB_iff.1 hm
    obtain ⟨hb0, hb1⟩ := hb
    by_cases h0 : n < 0
    · have HX := Lib.hid (text_neg hm h0)
      have HM := Lib.hid hm
      clear hm
      go_enter Tryz.func88, Tryz.ntmps88
      go_wp2_with (go_at_call 109; refine (may_any n hn _).mono ?_; rw [HM.out]; rintro e w' ⟨rfl, rfl⟩)
      refine (itoa_any (-n) ⟨by omega, by omega⟩ w HT.out).mono ?_
      rintro e w1 ⟨rfl, hb⟩
      have HB := Lib.hid hb
      clear hb
      have hlen := Lib.itoa_length_le (-n) (by omega) (by omega)
      generalize Lib.itoa (-n) = L at *
      go_wp2_with fail
      have hx := HX.out
      go_ret2
      exact ⟨pair_str_int ⟨by rw [hx.1]; show ByteArray.mk [40, 45, 32].toArray ++ ByteArray.mk L.toArray ++ ByteArray.mk [41].toArray = _; rw [ByteArray.mk_append_mk, ByteArray.mk_append_mk], hx.2.symm⟩, HB.out⟩
    · have HX := Lib.hid (text_pos hm h0)
      have HM := Lib.hid hm
      clear hm
      go_enter Tryz.func88, Tryz.ntmps88
      go_wp2_with (go_at_call 109; refine (may_any n hn _).mono ?_; rw [HM.out]; rintro e w' ⟨rfl, rfl⟩)
      refine (itoa_any n hn w HT.out).mono ?_
      rintro e w1 ⟨rfl, hb⟩
      have HB := Lib.hid hb
      clear hb
      go_wp2_with fail
      have hx := HX.out
      go_ret2
      exact ⟨pair_str_int ⟨by rw [hx.1], hx.2.symm⟩, HB.out⟩
  | false =>
    have HX := Lib.hid (text_no hm)
    have HM := Lib.hid hm
    clear hm
    go_enter Tryz.func88, Tryz.ntmps88
    go_wp2_with (go_at_call 109; refine (may_any n hn _).mono ?_; rw [HM.out]; rintro e w' ⟨rfl, rfl⟩)
    have hx := HX.out
    go_ret2
    exact ⟨pair_str_int ⟨by rw [hx.1], hx.2.symm⟩, Below.refl _ _⟩

end Go.Proofs.YtbchcipjpcdhfaaGreatDoor
/- Plain laws of numerals and numbers: what is written is parsed so, what is parsed is written so. No program in sight. -/
namespace Go.Proofs.YtbchcipjpcdhfaaGreatDoor
open Go.RowKit

/-- numerals and numbers -/
theorem isNum_iff {l : List UInt8} : isNum l = true ↔ l ≠ [] ∧ (1 < l.length → l.getD 0 0 ≠ 48) ∧ (∀ c ∈ l, isDig c = true) := by
  unfold isNum
  cases l with
  | nil => simp
  | cons a l =>
    simp only [List.isEmpty_cons, Bool.not_false, Bool.true_and, Bool.and_eq_true, List.all_eq_true, Bool.not_eq_true', Bool.and_eq_false_iff, decide_eq_false_iff_not, beq_eq_false_iff_ne, ne_eq, reduceCtorEq, not_false_eq_true, true_and]
    constructor
    · rintro ⟨h1, h2⟩; exact ⟨fun h => by rcases h1 with h1 | h1; exact absurd h h1; exact h1, h2⟩
    · rintro ⟨h1, h2⟩
      refine ⟨?_, h2⟩
      by_cases h : 1 < (a :: l).length
      · exact .inr (h1 h)
      · exact .inl h
theorem putAll_keep {l : List UInt8} {p : Int × Bool} (h : (putAll p l).2 = false) : p.2 = false := by
  cases hp : p.2 with
  | false => rfl
  | true =>
    exfalso
    have : ∀ (l : List UInt8) (p : Int × Bool), p.2 = true → (putAll p l).2 = true := by
      intro l
      induction l with
      | nil => intro p h; exact h
      | cons c l ih =>
        intro p h
        have e : putAll p (c :: l) = putAll (putN p ((c.toNat : Int) % 16)) l := rfl
        rw [e]; apply ih; unfold putN; split <;> simp [h]
    rw [this l p hp] at h; cases h
theorem dig16 {c : UInt8} (h : isDig c = true) : (c.toNat : Int) % 16 = (c.toNat : Int) - 48 := by
  have := isDig_iff.1 h; omega
theorem byte_of_dig {c : UInt8} (h : isDig c = true) {d : Nat} (hd : (c.toNat : Int) - 48 = d) : c = UInt8.ofNat (48 + d) := by
  have := isDig_iff.1 h
  apply UInt8.toNat_inj.1
  rw [UInt8.toNat_ofNat', Nat.mod_eq_of_lt (by omega)]; omega

/-- the number that was put together, where none was too great: its digits are these, and it is at least 1 where the first digit is none -/
theorem digits_of_put (l : List UInt8) (hn : isNum l = true) (n : Int) (h : putAll (0, false) l = (n, false)) :
    0 ≤ n ∧ n ≤ 4611686018427387904 ∧ Lib.decDigits n.toNat = l ∧ (l.getD 0 0 ≠ 48 → 1 ≤ n) := by
  induction hk : l.length generalizing l n with
  | zero =>
    have := List.length_eq_zero_iff.1 hk; subst this
    exact absurd hn (by decide)
  | succ k ih =>
    obtain ⟨hne, hz, hd⟩ := isNum_iff.1 hn
    have hle := putAll_le l (List.all_eq_true.2 hd)
    rw [h] at hle
    refine ⟨hle.1, hle.2, ?_⟩
    obtain ⟨l', c, rfl⟩ : ∃ l' c, l = l' ++ [c] := ⟨l.dropLast, l.getLast hne, (List.dropLast_concat_getLast hne).symm⟩
    have hc : isDig c = true := hd c (by simp)
    have hc9 := isDig_iff.1 hc
    rw [putAll_snoc, dig16 hc] at h
    by_cases h0 : l' = []
    · subst h0
      have e : putAll (0, false) [] = (0, false) := rfl
      rw [e] at h
      unfold putN at h
      rw [if_neg (by simp; omega)] at h
      simp only [Prod.mk.injEq] at h
      have hnn : n = ((n.toNat : Nat) : Int) := by omega
      refine ⟨?_, ?_⟩
      · rw [Lib.decDigits_one (by omega)]
        simp only [List.nil_append, List.cons.injEq, and_true]
        exact (byte_of_dig hc (by omega)).symm
      · intro h48
        simp at h48
        have : (c.toNat : Int) ≠ 48 := fun e2 => h48 (by
          have := byte_of_dig hc (d := 0) (by omega)
          simpa using this)
        omega
    · have hl2 : 1 < (l' ++ [c]).length := by
        have : 0 < l'.length := List.length_pos_iff.2 h0
        simp; omega
      have h48 := hz hl2
      have hg : (l' ++ [c]).getD 0 0 = l'.getD 0 0 := by
        cases l' with
        | nil => exact absurd rfl h0
        | cons a r => rfl
      rw [hg] at h48
      have hn' : isNum l' = true := isNum_iff.2 ⟨h0, fun _ => h48, fun x hx => hd x (by simp [hx])⟩
      obtain ⟨m, o, hp⟩ : ∃ m o, putAll (0, false) l' = (m, o) := ⟨_, _, rfl⟩
      rw [hp] at h
      have ho : o = false := by
        unfold putN at h
        split at h <;> simp only [Prod.mk.injEq] at h
        · exact absurd h.2 (by decide)
        · exact h.2
      subst ho
      obtain ⟨m0, m1, hdg, hm1⟩ := ih l' hn' m hp (by simp at hk; omega)
      have hm := hm1 h48
      unfold putN at h
      split at h
      · simp only [Prod.mk.injEq] at h; exact absurd h.2 (by decide)
      · simp only [Prod.mk.injEq] at h
        have e10 : n.toNat / 10 = m.toNat := by omega
        refine ⟨?_, fun _ => by omega⟩
        rw [Lib.decDigits, dif_neg (by omega), e10, hdg]
        congr 1
        simp only [List.cons.injEq, and_true]
        exact (byte_of_dig hc (by omega)).symm

theorem ofNat_dig {d : Nat} (h : d < 10) : isDig (UInt8.ofNat (48 + d)) = true ∧ ((UInt8.ofNat (48 + d)).toNat : Int) = 48 + d := by
  have e : (UInt8.ofNat (48 + d)).toNat = 48 + d := by rw [UInt8.toNat_ofNat', Nat.mod_eq_of_lt (by omega)]
  refine ⟨isDig_iff.2 (by rw [e]; omega), by rw [e]; omega⟩
/-- a number's digits are a numeral, whose number it is -/
theorem put_digits (a : Nat) (h : (a : Int) ≤ 4611686018427387904) :
    isNum (Lib.decDigits a) = true ∧ putAll (0, false) (Lib.decDigits a) = ((a : Int), false) ∧ (1 ≤ a → (Lib.decDigits a).getD 0 0 ≠ 48) := by
  induction a using Nat.strongRecOn with
  | _ a ih =>
    by_cases h10 : a < 10
    · have hd := ofNat_dig h10
      rw [Lib.decDigits_one h10]
      refine ⟨isNum_iff.2 ⟨by simp, fun h => by simp at h, fun c hc => by simp only [List.mem_singleton] at hc; rw [hc]; exact hd.1⟩, ?_, ?_⟩
      · have e : putAll (0, false) [UInt8.ofNat (48 + a)] = putN (0, false) (((UInt8.ofNat (48 + a)).toNat : Int) % 16) := rfl
        rw [e, dig16 hd.1, hd.2]
        unfold putN
        rw [if_neg (by simp; omega)]
        simp; omega
      · intro h1 h48
        have : ((UInt8.ofNat (48 + a)).toNat : Int) = 48 := by
          have e2 : UInt8.ofNat (48 + a) = 48 := by simpa using h48
          rw [e2]; rfl
        rw [hd.2] at this; omega
    · obtain ⟨i1, i2, i3⟩ := ih (a / 10) (by omega) (by omega)
      have hd := ofNat_dig (d := a % 10) (by omega)
      have e : Lib.decDigits a = Lib.decDigits (a / 10) ++ [UInt8.ofNat (48 + a % 10)] := by rw [Lib.decDigits, dif_neg h10]
      obtain ⟨n1, n2, n3⟩ := isNum_iff.1 i1
      have hg : (Lib.decDigits a).getD 0 0 = (Lib.decDigits (a / 10)).getD 0 0 := by
        rw [e]
        cases hx : Lib.decDigits (a / 10) with
        | nil => exact absurd hx n1
        | cons x r => rfl
      have i4 := i3 (by omega)
      refine ⟨isNum_iff.2 ⟨by rw [e]; simp, fun _ => by rw [hg]; exact i4, fun c hc => ?_⟩, ?_, fun _ => by rw [hg]; exact i4⟩
      · rw [e] at hc
        rcases List.mem_append.1 hc with h1 | h1
        · exact n3 c h1
        · simp only [List.mem_singleton] at h1; rw [h1]; exact hd.1
      · rw [e, putAll_snoc, i2, dig16 hd.1, hd.2]
        unfold putN
        rw [if_neg (by simp; omega)]
        simp only [Prod.mk.injEq, and_true]
        omega
theorem parse_split (l : List UInt8) : (parseE l = 20 ∧ parseV l = 0) ∨ (parseE l = 10 ∧ parseV l = 0) ∨
    (parseE l = 0 ∧ isNum l = true ∧ 0 ≤ parseV l ∧ parseV l ≤ 4611686018427387904 ∧ Lib.decDigits (parseV l).toNat = l) := by
  cases hn : isNum l with
  | false => left; simp [parseE, parseV, hn]
  | true =>
    right
    cases ho : (putAll (0, false) l).2 with
    | true => left; simp [parseE, parseV, hn, ho]
    | false =>
      right
      have hp := parse_fits hn ho
      have := digits_of_put l hn (putAll (0, false) l).1 (Prod.ext rfl ho)
      rw [hp.1]
      exact ⟨hp.2, rfl, this.1, this.2.1, this.2.2.1⟩
theorem parseV_I64 (l : List UInt8) : I64 (parseV l) := by
  unfold I64
  rcases parse_split l with h | h | h <;> omega
/-- P1.4: what is parsed is written so -/
theorem text_of_parse {l : List UInt8} (h : parseE l = 0) : 0 ≤ parseV l ∧ textE (parseV l) = 0 ∧ textL (parseV l) = l := by
  rcases parse_split l with h1 | h1 | ⟨_, _, h0, h1, h2⟩
  · omega
  · omega
  · have hm : mayB (parseV l) = true := by rw [mayB_iff]; omega
    have ht := text_pos hm (by omega)
    refine ⟨h0, ht.2, ?_⟩
    rw [ht.1]
    have : parseV l = ((parseV l).toNat : Int) := by omega
    rw [this, Lib.itoa_nonneg]; exact h2
/-- P1.4: what is written is parsed so -/
theorem parse_of_text {a : Int} (hm : mayB a = true) (h0 : 0 ≤ a) : parseV (textL a) = a ∧ parseE (textL a) = 0 := by
  have hb := mayB_iff.1 hm
  obtain ⟨k, rfl⟩ := Int.eq_ofNat_of_zero_le h0
  have ht := text_pos hm (by omega)
  rw [ht.1, Lib.itoa_nonneg]
  obtain ⟨h1, h2, _⟩ := put_digits k hb.2
  have h3 := parse_fits h1 (by rw [h2])
  rw [h3.1, h3.2, h2]; exact ⟨rfl, rfl⟩
end Go.Proofs.YtbchcipjpcdhfaaGreatDoor
/- lex: the bytes' questions, those of the program and those of the document. -/
namespace Go.Proofs.YtbchcipjpcdhfaaGreatDoor.Lx
open Go.RowKit

/-- a string's bytes -/
def bs (s : ByteArray) : List UInt8 := s.data.toList
theorem bs_toList (s : ByteArray) : s.toList = bs s := ByteArray.toList_eq s
theorem bs_length (s : ByteArray) : (bs s).length = s.size := by unfold bs; simp
theorem bs_inj {s t : ByteArray} : bs s = bs t ↔ s = t := by
  unfold bs
  constructor
  · intro h
    cases s; cases t; congr 1; exact Array.toList_inj.1 h
  · intro h; rw [h]
theorem bs_mem {s : ByteArray} {k : Nat} (hk : k < s.size) : s[k] ∈ bs s := by unfold bs; exact Array.mem_toList_iff.2 (Array.getElem_mem _)
theorem bs_next {s : ByteArray} {k : Nat} (hk : k < s.size) : (bs s).take (k + 1) = (bs s).take k ++ [s[k]] := by
  unfold bs
  rw [List.take_succ_eq_append_getElem (by simpa using hk)]; rfl
theorem bs_at {s : ByteArray} {k : Nat} (hk : k < s.size) : (bs s)[k]? = some s[k] := by
  unfold bs
  rw [List.getElem?_eq_getElem (by simpa using hk)]; rfl

def whiteI (c : Int) : Bool := decide (c = 32 ∨ c = 9 ∨ c = 10 ∨ c = 13)
def digitI (c : Int) : Bool := decide (48 ≤ c ∧ c ≤ 57)
def insideI (c : Int) : Bool := decide (c ≠ 124 ∧ c ≠ 92 ∧ ((32 ≤ c ∧ c ≤ 126) ∨ c = 9 ∨ c = 10 ∨ c = 13))
def signI (c : Int) : Bool := decide ((65 ≤ c ∧ c ≤ 90) ∨ (97 ≤ c ∧ c ≤ 122) ∨ (48 ≤ c ∧ c ≤ 57) ∨ c = 126 ∨ c = 33 ∨ c = 64 ∨ c = 36 ∨ c = 37 ∨ c = 94 ∨ c = 38 ∨ c = 42 ∨ c = 95 ∨ c = 45 ∨ c = 43 ∨ c = 61 ∨ c = 60 ∨ c = 62 ∨ c = 46 ∨ c = 63 ∨ c = 47)

set_option maxHeartbeats 800000 in
theorem white_any (c : Int) (w : World) :
    Calls Tryz.prog 127 #[.int .u8 c] w fun e w' => e = .returned (.bool (whiteI c)) ∧ w = w' := by
  go_enter Tryz.func127, Tryz.ntmps127
  go_wp2_with fail
  all_goals
    go_ret
    exact ⟨ret_bool (by rw [Bool.eq_iff_iff]; simp [whiteI]; try omega), rfl⟩
set_option maxHeartbeats 800000 in
theorem digit_any (c : Int) (w : World) (h0 : 0 ≤ c) (h1 : c ≤ 255) :
    Calls Tryz.prog 130 #[.int .u8 c] w fun e w' => e = .returned (.bool (digitI c)) ∧ w = w' := by
  by_cases h2 : 48 ≤ c
  · go_enter Tryz.func130, Tryz.ntmps130
    go_wp2_with fail
    all_goals
      go_ret
      exact ⟨ret_bool (by rw [Bool.eq_iff_iff]; simp [digitI]; try omega), rfl⟩
  · go_enter Tryz.func130, Tryz.ntmps130
    go_wp2_with fail
    all_goals
      go_ret
      exact ⟨ret_bool (by rw [Bool.eq_iff_iff]; simp [digitI]; try omega), rfl⟩
set_option maxHeartbeats 800000 in
theorem inside_any (c : Int) (w : World) :
    Calls Tryz.prog 119 #[.int .u8 c] w fun e w' => e = .returned (.bool (insideI c)) ∧ w = w' := by
  have HW := Lib.hid (white_any c w)
  have HQ := Lib.hid (show whiteI c = decide (c = 32 ∨ c = 9 ∨ c = 10 ∨ c = 13) from rfl)
  generalize whiteI c = b at *
  go_enter Tryz.func119, Tryz.ntmps119
  go_wp2_with (go_at_call 127; refine HW.out.mono ?_; rintro e w' ⟨rfl, rfl⟩)
  all_goals
    go_ret
    have hq := HQ.out
    exact ⟨ret_bool (by rw [Bool.eq_iff_iff]; simp [insideI, hq]; try omega), rfl⟩
theorem low_bits : ∀ n : Nat, n < 64 → (bits BinOp.and IntKind.u64 (17582031444648132608 / 2 ^ n) 1 == 1) = signI (n : Int) := by
  intro n hn
  exact (show ∀ n : Fin 64, (bits BinOp.and IntKind.u64 (17582031444648132608 / 2 ^ n.val) 1 == 1) = signI (n.val : Int) by decide +kernel) ⟨n, hn⟩
theorem high_bits : ∀ n : Nat, n < 64 → (bits BinOp.and IntKind.u64 (5188146765496319999 / 2 ^ n) 1 == 1) = signI ((n + 64 : Nat) : Int) := by
  intro n hn
  exact (show ∀ n : Fin 64, (bits BinOp.and IntKind.u64 (5188146765496319999 / 2 ^ n.val) 1 == 1) = signI ((n.val + 64 : Nat) : Int) by decide +kernel) ⟨n, hn⟩
set_option maxHeartbeats 800000 in
theorem sign_any (c : Int) (w : World) (h0 : 0 ≤ c) (h1 : c ≤ 255) :
    Calls Tryz.prog 104 #[.int .u8 c] w fun e w' => e = .returned (.bool (signI c)) ∧ w = w' := by
  obtain ⟨n, rfl⟩ := Int.eq_ofNat_of_zero_le h0
  by_cases h2 : n < 64
  · have h2' : (n : Int) < 64 := by omega
    have HB := Lib.hid (low_bits n h2)
    go_enter Tryz.func104, Tryz.ntmps104
    go_wp2_with fail
    go_ret
    exact ⟨ret_bool (by rw [← HB.out]), rfl⟩
  · have h2' := decide_eq_false (show ¬ (n : Int) < 64 by omega)
    by_cases h3 : n < 128
    · obtain ⟨m, rfl⟩ : ∃ m, n = m + 64 := ⟨n - 64, by omega⟩
      have h3' : ((m + 64 : Nat) : Int) < 128 := by omega
      have h4 : 0 ≤ ((m + 64 : Nat) : Int) - 64 := by omega
      have HB := Lib.hid (high_bits m (by omega))
      have HE := Lib.hid (show (((m + 64 : Nat) : Int) - 64).toNat = m by omega)
      generalize ((m + 64 : Nat) : Int) = x at *
      go_enter Tryz.func104, Tryz.ntmps104
      go_wp2_with fail
      go_ret
      exact ⟨ret_bool (by have h := HB.out; rw [← HE.out] at h; exact h), rfl⟩
    · have h3' := decide_eq_false (show ¬ (n : Int) < 128 by omega)
      have HS := Lib.hid (show false = signI (n : Int) by rw [eq_comm, Bool.eq_false_iff]; simp [signI]; omega)
      go_enter Tryz.func104, Tryz.ntmps104
      go_wp2_with fail
      go_ret
      exact ⟨ret_bool HS.out, rfl⟩

def resL : List (List UInt8) := [[95], [33], [97, 115], [108, 101, 116], [101, 120, 105, 115, 116, 115], [102, 111, 114, 97, 108, 108], [109, 97, 116, 99, 104], [112, 97, 114]]
def resB (l : List UInt8) : Bool := resL.contains l
set_option maxHeartbeats 1600000 in
theorem reserved_any (s : ByteArray) (w : World) :
    Calls Tryz.prog 125 #[.string s] w fun e w' => e = .returned (.bool (resB (bs s))) ∧ w = w' := by
  go_enter Tryz.func125, Tryz.ntmps125
  go_wp2_with fail
  all_goals
    go_ret
    exact ⟨ret_bool (by rw [← bs_toList]; simp_all [resB, resL]), rfl⟩
end Go.Proofs.YtbchcipjpcdhfaaGreatDoor.Lx
/- lex: names. -/
namespace Go.Proofs.YtbchcipjpcdhfaaGreatDoor.Lx
open Go.RowKit

set_option maxHeartbeats 800000 in
theorem all_inside (s : ByteArray) (w : World) (hs : (s.size : Int) ≤ 9223372036854775807) :
    Calls Tryz.prog 118 #[.string s, .func (Fn.func 119) #[] #[]] w fun e w' => e = .returned (.bool ((bs s).all fun c => insideI c.toNat)) ∧ w = w' := by
  go_enter Tryz.func118, Tryz.ntmps118
  go_wp2_with fail
  go_loop [8, 5] (fun v _ => ∃ k : Nat, k ≤ s.size ∧ v = .int .i64 k ∧ ((bs s).take k).all (fun c => insideI c.toNat) = true) (fun v _ => s.size - (intOf v).toNat)
  case atStart => exact ⟨0, Nat.zero_le _, rfl, rfl⟩
  case round =>
    obtain ⟨k, hk, rfl, hall⟩ := hrel
    have HA := Lib.hid hall
    clear hall
    by_cases hlt : k < s.size
    · have hlt2 : (k : Int) < (s.size : Int) := by omega
      have HC := Lib.hid ((fun c w _ _ => inside_any c w) (s[k].toNat : Int) w (by omega) (by have := s[k].toNat_lt; omega))
      have HT := Lib.hid (bs_next hlt)
      have HM := Lib.hid (show s[k] ∈ (bs s) from bs_mem hlt)
      cases hb : insideI (s[k].toNat : Int) with
      | true =>
        have HB := Lib.hid hb
        rw [hb] at HC
        clear hb
        go_wp2_with fail
        refine HC.out.mono ?_
        rintro e w' ⟨rfl, rfl⟩
        go_wp2_with fail
        go_round
        case rel => exact ⟨k + 1, by omega, by go_num, by rw [HT.out, List.all_append, HA.out]; simp [HB.out]⟩
        case measure => simp [intOf]; omega
      | false =>
        have HB := Lib.hid (show ((bs s).all fun c => insideI c.toNat) = false from by rw [Bool.eq_false_iff]; intro h; rw [List.all_eq_true] at h; have := h _ HM.out; rw [hb] at this; cases this)
        rw [hb] at HC
        clear hb
        go_wp2_with fail
        refine HC.out.mono ?_
        rintro e w' ⟨rfl, rfl⟩
        go_wp2_with fail
        go_ret
        exact ⟨ret_bool HB.out.symm, rfl⟩
    · obtain rfl : k = s.size := by omega
      have HB := Lib.hid (show ((bs s).all fun c => insideI c.toNat) = true from by have h := HA.out; rwa [List.take_of_length_le (by rw [bs_length]; omega)] at h)
      go_wp2_with fail
      go_ret
      exact ⟨ret_bool HB.out.symm, rfl⟩
set_option maxHeartbeats 800000 in
theorem all_sign (s : ByteArray) (w : World) (hs : (s.size : Int) ≤ 9223372036854775807) :
    Calls Tryz.prog 118 #[.string s, .func (Fn.func 104) #[] #[]] w fun e w' => e = .returned (.bool ((bs s).all fun c => signI c.toNat)) ∧ w = w' := by
  go_enter Tryz.func118, Tryz.ntmps118
  go_wp2_with fail
  go_loop [8, 5] (fun v _ => ∃ k : Nat, k ≤ s.size ∧ v = .int .i64 k ∧ ((bs s).take k).all (fun c => signI c.toNat) = true) (fun v _ => s.size - (intOf v).toNat)
  case atStart => exact ⟨0, Nat.zero_le _, rfl, rfl⟩
  case round =>
    obtain ⟨k, hk, rfl, hall⟩ := hrel
    have HA := Lib.hid hall
    clear hall
    by_cases hlt : k < s.size
    · have hlt2 : (k : Int) < (s.size : Int) := by omega
      have HC := Lib.hid ((fun c w h0 h1 => sign_any c w h0 h1) (s[k].toNat : Int) w (by omega) (by have := s[k].toNat_lt; omega))
      have HT := Lib.hid (bs_next hlt)
      have HM := Lib.hid (show s[k] ∈ (bs s) from bs_mem hlt)
      cases hb : signI (s[k].toNat : Int) with
      | true =>
        have HB := Lib.hid hb
        rw [hb] at HC
        clear hb
        go_wp2_with fail
        refine HC.out.mono ?_
        rintro e w' ⟨rfl, rfl⟩
        go_wp2_with fail
        go_round
        case rel => exact ⟨k + 1, by omega, by go_num, by rw [HT.out, List.all_append, HA.out]; simp [HB.out]⟩
        case measure => simp [intOf]; omega
      | false =>
        have HB := Lib.hid (show ((bs s).all fun c => signI c.toNat) = false from by rw [Bool.eq_false_iff]; intro h; rw [List.all_eq_true] at h; have := h _ HM.out; rw [hb] at this; cases this)
        rw [hb] at HC
        clear hb
        go_wp2_with fail
        refine HC.out.mono ?_
        rintro e w' ⟨rfl, rfl⟩
        go_wp2_with fail
        go_ret
        exact ⟨ret_bool HB.out.symm, rfl⟩
    · obtain rfl : k = s.size := by omega
      have HB := Lib.hid (show ((bs s).all fun c => signI c.toNat) = true from by have h := HA.out; rwa [List.take_of_length_le (by rw [bs_length]; omega)] at h)
      go_wp2_with fail
      go_ret
      exact ⟨ret_bool HB.out.symm, rfl⟩

/-- whether a name may be -/
def mayB (l : List UInt8) : Bool := decide (l.length ≤ 100) && l.all fun c => insideI c.toNat
set_option maxHeartbeats 800000 in
theorem may_any (s : ByteArray) (w : World) (hs : (s.size : Int) ≤ 9223372036854775807) :
    Calls Tryz.prog 101 #[.string s] w fun e w' => e = .returned (.bool (mayB (bs s))) ∧ w = w' := by
  have HA := Lib.hid (all_inside s w hs)
  have HM := Lib.hid (show mayB (bs s) = (decide (s.size ≤ 100) && (bs s).all fun c => insideI c.toNat) by unfold mayB; rw [bs_length])
  generalize ((bs s).all fun c => insideI c.toNat) = b at *
  by_cases h1 : s.size ≤ 100
  · have h : (s.size : Int) ≤ 100 := by omega
    go_enter Tryz.func101, Tryz.ntmps101
    go_wp2_with fail
    refine HA.out.mono ?_
    rintro e w' ⟨rfl, rfl⟩
    go_wp2_with fail
    go_ret
    exact ⟨ret_bool (by rw [HM.out]; simp [h1]), rfl⟩
  · have h : decide ((s.size : Int) ≤ 100) = false := decide_eq_false (by omega)
    go_enter Tryz.func101, Tryz.ntmps101
    go_wp2_with fail
    go_ret
    exact ⟨ret_bool (by rw [HM.out]; simp [h1]), rfl⟩
end Go.Proofs.YtbchcipjpcdhfaaGreatDoor.Lx
