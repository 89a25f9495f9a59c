import Derived.Test.YtpmdcckapddchaaGreatShort
import Derived.Test.YtpmdcckapddchaaGreatMa
import Derived.Deep.QuietTactic
import Derived.Test.YtpmdcckapddchaaGreatMb
/- merged by wip/merge.py from: LexR NumParse NumRParse SexpRMay -/
/- The document's lex: bytes, names. -/
namespace Go.Proofs.YtpmdcckapddchaaGreat.Lx
open Go.RowKit

set_option maxHeartbeats 800000 in
theorem rwhite_any (c : Int) (w : World) :
  Calls Tryz.prog 112 #[.int .u8 c] w fun e w' => e = .returned (.bool (whiteI c)) ∧ w = w' := by
 go_enter Tryz.func112, Tryz.ntmps112
 go_wp2_with fail
 all_goals
  go_ret
  exact ⟨ret_bool (by rw [Bool.eq_iff_iff]; simp [whiteI]; try omega), rfl⟩
set_option maxHeartbeats 800000 in
theorem rinside_any (c : Int) (w : World) :
  Calls Tryz.prog 70 #[.int .u8 c] w fun e w' => e = .returned (.bool (insideI c)) ∧ w = w' := by
 have HW := kp (rwhite_any c w)
 have HQ := kp (show whiteI c = decide (c = 32 ∨ c = 9 ∨ c = 10 ∨ c = 13) from rfl)
 generalize whiteI c = b at *
 go_enter Tryz.func70, Tryz.ntmps70
 go_wp2_with (go_at_call 112; refine HW.out.mono ?_; rintro e w' ⟨rfl, rfl⟩)
 all_goals
  go_ret
  have hq := HQ.out
  exact ⟨ret_bool (by rw [Bool.eq_iff_iff]; simp [insideI, hq]; try omega), rfl⟩
def someL : List UInt8 := [126, 33, 64, 36, 37, 94, 38, 42, 95, 45, 43, 61, 60, 62, 46, 63, 47]
def someS : ByteArray := { data := #[126, 33, 64, 36, 37, 94, 38, 42, 95, 45, 43, 61, 60, 62, 46, 63, 47] }
theorem some_sign (c : Int) (h : ((65 ≤ c ∧ c ≤ 90) ∨ (97 ≤ c ∧ c ≤ 122) ∨ (48 ≤ c ∧ c ≤ 57)) = False) : signI c = (bs someS).any fun x => (x.toNat : Int) == c := by
 have e : (bs someS).any (fun x => (x.toNat : Int) == c) = someL.any (fun x => (x.toNat : Int) == c) := rfl
 rw [e, Bool.eq_iff_iff]
 simp [signI, someL]
 simp at h
 omega
set_option maxHeartbeats 1600000 in
theorem rsign_any (c : Int) (w : World) (h0 : 0 ≤ c) (h1 : c ≤ 255) :
  Calls Tryz.prog 71 #[.int .u8 c] w fun e w' => e = .returned (.bool (signI c)) ∧ w = w' := by
 by_cases h : (65 ≤ c ∧ c ≤ 90) ∨ (97 ≤ c ∧ c ≤ 122) ∨ (48 ≤ c ∧ c ≤ 57)
 ·have HS := kp (show signI c = true from by simp [signI]; omega)
  by_cases a1 : 65 ≤ c <;> by_cases a2 : c ≤ 90 <;> by_cases a3 : 97 ≤ c <;> by_cases a4 : c ≤ 122 <;> by_cases a5 : 48 ≤ c <;> by_cases a6 : c ≤ 57
  all_goals first | (exfalso; omega) | skip
  all_goals
   try replace a1 := decide_eq_false a1
   try replace a2 := decide_eq_false a2
   try replace a3 := decide_eq_false a3
   try replace a4 := decide_eq_false a4
   try replace a5 := decide_eq_false a5
   try replace a6 := decide_eq_false a6
   clear h
   go_enter Tryz.func71, Tryz.ntmps71
   go_wp2_with fail
   go_ret
   exact ⟨ret_bool HS.out.symm, rfl⟩
 ·have HS := kp (some_sign c (eq_false h))
  by_cases a1 : 65 ≤ c <;> by_cases a2 : c ≤ 90 <;> by_cases a3 : 97 ≤ c <;> by_cases a4 : c ≤ 122 <;> by_cases a5 : 48 ≤ c <;> by_cases a6 : c ≤ 57
  all_goals first | (exfalso; omega) | skip
  all_goals
   try replace a1 := decide_eq_false a1
   try replace a2 := decide_eq_false a2
   try replace a3 := decide_eq_false a3
   try replace a4 := decide_eq_false a4
   try replace a5 := decide_eq_false a5
   try replace a6 := decide_eq_false a6
   clear h
   go_enter Tryz.func71, Tryz.ntmps71
   go_wp2_with fail
  all_goals
   go_loop [3] (fun v => ∃ k : Nat, k ≤ 17 ∧ v = .int .i64 k ∧ (someL.take k).any (fun x => (x.toNat : Int) == c) = false) (fun v => 17 - (intOf v).toNat)
   case atStart => exact ⟨0, Nat.zero_le _, rfl, rfl⟩
   case round =>
    obtain ⟨k, hk, rfl, hn⟩ := hrel
    have HN := kp hn
    clear hn
    by_cases hlt : k < 17
    ·have hlt2 : (k : Int) < 17 := by omega
     have HK := kp (show ∀ b, (((someS[k]'(by show k < 17; omega)).toNat : Int) == c) = b → ∃ x, someL[k]? = some x ∧ ((x.toNat : Int) == c) = b from fun b hb => ⟨someS[k]'(by show k < 17; omega), bs_at (s := someS) (by show k < 17; omega), hb⟩)
     go_wp2_with fail
     ·obtain ⟨x, hx, hc⟩ := HK.out true (by assumption)
      go_ret
      exact ⟨ret_bool (by rw [HS.out, eq_comm, List.any_eq_true]; exact ⟨x, List.mem_of_getElem? hx, hc⟩), rfl⟩
     ·obtain ⟨x, hx, hc⟩ := HK.out false (by assumption)
      refine ⟨⟨k + 1, by omega, by go_num, ?_⟩, by simp [intOf]; omega⟩
      rw [List.take_add_one, hx, List.any_append, HN.out]
      simpa using hc
    ·obtain rfl : k = 17 := by omega
     go_wp2_with fail
     go_ret
     exact ⟨ret_bool (by rw [HS.out]; exact HN.out.symm), rfl⟩

set_option maxHeartbeats 1600000 in
theorem rmay_any (s : ByteArray) (w : World) (hs : (s.size : Int) ≤ 9223372036854775807) :
  Calls Tryz.prog 40 #[.string s] w fun e w' => e = .returned (.bool (mayB (bs s))) ∧ w = w' := by
 have HM := kp (show mayB (bs s) = (decide (s.size ≤ 100) && (bs s).all fun c => insideI c.toNat) by unfold mayB; rw [bs_length])
 by_cases h1 : s.size ≤ 100
 ·have h : ¬ (100 : Int) < (s.size : Int) := by omega
  go_enter Tryz.func40, Tryz.ntmps40
  go_wp2_with fail
  go_loop [3] (fun v => ∃ k : Nat, k ≤ s.size ∧ v = .int .i64 k ∧ ((bs s).take k).all (fun c => insideI c.toNat) = true) (fun v => s.size - (intOf v).toNat)
  case atStart => exact ⟨0, Nat.zero_le _, rfl, rfl⟩
  case round =>
   obtain ⟨k, hk, rfl, hall⟩ := hrel
   have HA := kp hall
   clear hall
   by_cases hlt : k < s.size
   ·have hlt2 : (k : Int) < (s.size : Int) := by omega
    have HC := kp (rinside_any (s[k].toNat : Int) w)
    have HT := kp (bs_next hlt)
    have HMm := kp (bs_mem hlt)
    cases hb : insideI (s[k].toNat : Int) with
    | true =>
     have HB := kp hb
     rw [hb] at HC
     clear hb
     go_wp2_with fail
     refine HC.out.mono ?_
     rintro e w' ⟨rfl, rfl⟩
     go_wp2_with fail
     go_round
     case rel => exact ⟨k + 1, by omega, by go_num, by rw [HT.out, List.all_append, HA.out]; simp [HB.out]⟩
     case measure => simp [intOf]; omega
    | false =>
     have HB := kp (show mayB (bs s) = false from by rw [HM.out, Bool.and_eq_false_iff]; right; rw [Bool.eq_false_iff]; intro h; rw [List.all_eq_true] at h; have := h _ HMm.out; rw [hb] at this; cases this)
     rw [hb] at HC
     clear hb
     go_wp2_with fail
     refine HC.out.mono ?_
     rintro e w' ⟨rfl, rfl⟩
     go_wp2_with fail
     go_ret
     exact ⟨ret_bool HB.out.symm, rfl⟩
   ·obtain rfl : k = s.size := by omega
    have HB := kp (show mayB (bs s) = true from by have h := HA.out; rw [List.take_of_length_le (by rw [bs_length]; omega)] at h; rw [HM.out, h]; simp [h1])
    go_wp2_with fail
    go_ret
    exact ⟨ret_bool HB.out.symm, rfl⟩
 ·have h : (100 : Int) < (s.size : Int) := by omega
  go_enter Tryz.func40, Tryz.ntmps40
  go_wp2_with fail
  go_ret
  exact ⟨ret_bool (by rw [HM.out]; simp [h1]), rfl⟩
end Go.Proofs.YtpmdcckapddchaaGreat.Lx
/- The walks of layer 1's Parse. -/
namespace Go.Proofs.YtpmdcckapddchaaGreat
open Go.RowKit

set_option maxHeartbeats 400000 in
theorem put_any (d n : Int) (o : Bool) (bn bo : Nat) (w : World) (hd0 : 0 ≤ d) (hd9 : d ≤ 9) (hn0 : 0 ≤ n) (hn1 : n ≤ 4611686018427387904)
  (hn : w.cell? ⟨bn, 0, none⟩ = some (.int .i64 n)) (ho : w.cell? ⟨bo, 0, none⟩ = some (.bool o)) (fn : w.frozen? ⟨bn, 0, none⟩ = false) (fo : w.frozen? ⟨bo, 0, none⟩ = false) :
  Calls Tryz.prog 169 #[.int .i64 d, .pointer (some ⟨bn, 0, none⟩), .pointer (some ⟨bo, 0, none⟩)] w fun e w' => e = .returned (.tuple #[]) ∧
   w' = (if (4611686018427387904 - d) / 10 < n then w.setCell ⟨bo, 0, none⟩ (.bool true) else w.setCell ⟨bn, 0, none⟩ (.int .i64 (n * 10 + d))) := by
 by_cases h : (4611686018427387904 - d) / 10 < n
 ·rw [if_pos h]
  go_enter Tryz.func169, Tryz.ntmps169
  go_wp2
  exact ret0 rfl rfl ⟨rfl, rfl⟩
 ·rw [if_neg h]
  go_enter Tryz.func169, Tryz.ntmps169
  go_wp2
  go_end0
  exact ⟨rfl, rfl⟩

structure ParseAt (s : ByteArray) (w : World) (k : Nat) (wr : World) : Prop where
 n : wr.heap[w.heap.size]? = some (.cells #[.int .i64 (putAll (0, false) (s.data.toList.take k)).1] 3 (0, 0))
 o : wr.heap[w.heap.size + 1]? = some (.cells #[.bool (putAll (0, false) (s.data.toList.take k)).2] 4 (0, 0))
 c : ∀ j (hj : j < s.data.size), wr.cell? ⟨w.heap.size + 1 + 1, j, none⟩ = some (.int .u8 (s.data[j].toNat : Int))
 d : (s.data.toList.take k).all isDig = true
 b : Below w.heap.size w wr

theorem size_pos_of {s : ByteArray} (hne : s.toList.isEmpty = false) : 0 < s.size := by
 rcases Nat.eq_zero_or_pos s.size with h | h
 ·exfalso
  rw [ByteArray.toList_eq] at hne
  have h2 : s.data.toList.length = 0 := by rw [Array.length_toList]; exact h
  rw [List.length_eq_zero_iff.1 h2] at hne; cases hne
 ·exact h

theorem putAll_snoc (p : Int × Bool) (l : List UInt8) (c : UInt8) : putAll p (l ++ [c]) = putN (putAll p l) ((c.toNat : Int) % 16) := by simp [putAll]
theorem take_next {s : ByteArray} {k : Nat} (hk : k < s.data.size) : s.data.toList.take (k + 1) = s.data.toList.take k ++ [s.data[k]] := by
 rw [List.take_add_one, List.getElem?_eq_getElem (by simpa using hk)]; simp
theorem putAll_le (l : List UInt8) (hl : l.all isDig = true) : 0 ≤ (putAll (0, false) l).1 ∧ (putAll (0, false) l).1 ≤ 4611686018427387904 := by
 suffices h : ∀ l : List UInt8, l.all isDig = true → ∀ p : Int × Bool, 0 ≤ p.1 → p.1 ≤ 4611686018427387904 → 0 ≤ (putAll p l).1 ∧ (putAll p l).1 ≤ 4611686018427387904 from h l hl _ (by omega) (by simp)
 intro l
 induction l with
 | nil => intro _ p h0 h1; exact ⟨h0, h1⟩
 | cons c l ih =>
  intro hl p h0 h1
  simp only [List.all_cons, Bool.and_eq_true] at hl
  have hc : 48 ≤ (c.toNat : Int) ∧ (c.toNat : Int) ≤ 57 := by simpa [isDig] using hl.1
  have e : putAll p (c :: l) = putAll (putN p ((c.toNat : Int) % 16)) l := rfl
  rw [e]
  refine ih hl.2 _ ?_ ?_
  ·unfold putN; split <;> simp <;> omega
  ·unfold putN; split <;> simp <;> omega

theorem setCell_self {w : World} {g : Nat} {v x : Value} {e : TypeId} (h : w.heap[g]? = some (.cells #[v] e (0, 0))) : (w.setCell ⟨g, 0, none⟩ x).heap[g]? = some (.cells #[x] e (0, 0)) := by
 simp [World.setCell, Array.getElem?_modify, h]
theorem setCell_other {w : World} {g k : Nat} (x : Value) (h : k ≠ g) : (w.setCell ⟨g, 0, none⟩ x).heap[k]? = w.heap[k]? := Below.heap_setCell _ _ _ _ h
theorem cell_setCell_other {w : World} {g k j : Nat} (x : Value) (h : k ≠ g) : (w.setCell ⟨g, 0, none⟩ x).cell? ⟨k, j, none⟩ = w.cell? ⟨k, j, none⟩ := World.cell?_of_block (w := w) (setCell_other x h)

theorem ParseAt.step {s : ByteArray} {w wr : World} {k : Nat} (hp : ParseAt s w k wr) (hk : k < s.data.size) (hd : isDig s.data[k] = true) :
  ParseAt s w (k + 1) (if (4611686018427387904 - (s.data[k].toNat : Int) % 16) / 10 < (putAll (0, false) (s.data.toList.take k)).1 then wr.setCell ⟨w.heap.size + 1, 0, none⟩ (.bool true) else wr.setCell ⟨w.heap.size, 0, none⟩ (.int .i64 ((putAll (0, false) (s.data.toList.take k)).1 * 10 + (s.data[k].toNat : Int) % 16))) := by
 have e1 := take_next hk
 have e2 := putAll_snoc (0, false) (s.data.toList.take k) s.data[k]
 have ea : (s.data.toList.take (k + 1)).all isDig = true := by rw [e1, List.all_append, hp.d]; simp [hd]
 rw [← e1] at e2
 by_cases h : (4611686018427387904 - (s.data[k].toNat : Int) % 16) / 10 < (putAll (0, false) (s.data.toList.take k)).1
 ·rw [if_pos h]
  have e3 : putAll (0, false) (s.data.toList.take (k + 1)) = ((putAll (0, false) (s.data.toList.take k)).1, true) := by rw [e2, putN, if_pos h]
  refine ⟨?_, ?_, ?_, ea, hp.b.setCell (by simp) _⟩
  ·rw [setCell_other _ (by omega), e3]; exact hp.n
  ·rw [e3]; exact setCell_self hp.o
  ·intro j hj; rw [cell_setCell_other _ (by omega)]; exact hp.c j hj
 ·rw [if_neg h]
  have e3 : putAll (0, false) (s.data.toList.take (k + 1)) = ((putAll (0, false) (s.data.toList.take k)).1 * 10 + (s.data[k].toNat : Int) % 16, (putAll (0, false) (s.data.toList.take k)).2) := by rw [e2, putN, if_neg h]
  refine ⟨?_, ?_, ?_, ea, hp.b.setCell (by simp) _⟩
  ·rw [e3]; exact setCell_self hp.n
  ·rw [setCell_other _ (by omega), e3]; exact hp.o
  ·intro j hj; rw [cell_setCell_other _ (by omega)]; exact hp.c j hj

theorem isNum_of {s : ByteArray} (hne : s.toList.isEmpty = false) (hz : 1 < s.size → ∀ h : 0 < s.size, (((s[0]'h).toNat : Int) == 48) = false) : isNum s.data.toList = s.data.toList.all isDig := by
 have hsz := size_pos_of hne
 rw [ByteArray.toList_eq] at hne
 unfold isNum
 rw [hne]
 have : (decide (1 < s.data.toList.length) && s.data.toList.getD 0 0 == 48) = false := by
  by_cases h1 : 1 < s.size
  ·have h2 := hz h1 hsz
   have h3 : s.data.toList.getD 0 0 = s[0]'hsz := by
    rw [List.getD_eq_getElem?_getD, List.getElem?_eq_getElem (by simpa using hsz)]; rfl
   rw [h3]
   rw [Bool.and_eq_false_iff]; right
   rw [beq_eq_false_iff_ne] at h2 ⊢
   intro h4; rw [h4] at h2; exact h2 rfl
  ·rw [Bool.and_eq_false_iff]; left
   rw [decide_eq_false_iff_not, Array.length_toList]; exact h1
 rw [this]; simp

theorem parse_bad {s : ByteArray} {k : Nat} (hk : k < s.data.size) (hd : isDig s.data[k] = false) (hn : isNum s.data.toList = s.data.toList.all isDig) : parseV s.data.toList = 0 ∧ parseE s.data.toList = 20 := by
 have : isNum s.data.toList = false := by
  rw [hn, Bool.eq_false_iff]; intro h
  rw [List.all_eq_true] at h
  have := h s.data[k] (by simp)
  rw [hd] at this; cases this
 simp [parseV, parseE, this]
theorem parse_end {s : ByteArray} {k : Nat} (hk : ¬ k < s.size) (hd : (s.data.toList.take k).all isDig = true) (hn : isNum s.data.toList = s.data.toList.all isDig) :
  s.data.toList.take k = s.data.toList ∧ isNum s.data.toList = true := by
 have e : s.data.toList.take k = s.data.toList := List.take_of_length_le (by rw [Array.length_toList]; exact Nat.le_of_not_lt hk)
 rw [e] at hd
 exact ⟨e, by rw [hn, hd]⟩
theorem parse_over {l : List UInt8} (hn : isNum l = true) (h : (putAll (0, false) l).2 = true) : parseV l = 0 ∧ parseE l = 10 := by simp [parseV, parseE, hn, h]
theorem parse_fits {l : List UInt8} (hn : isNum l = true) (h : (putAll (0, false) l).2 = false) : parseV l = (putAll (0, false) l).1 ∧ parseE l = 0 := by simp [parseV, parseE, hn, h]

set_option maxHeartbeats 1600000 in
set_option maxRecDepth 100000 in
theorem parse_loop (s : ByteArray) (hs : s.size ≤ 140737488351232) (w : World) (hne : s.toList.isEmpty = false) (hz : 1 < s.size → ∀ h : 0 < s.size, (((s[0]'h).toNat : Int) == 48) = false) :
  Calls Tryz.prog 117 #[.string s] w fun e w' => e = .returned (.tuple #[.int .i64 (parseV s.data.toList), .int .i64 (parseE s.data.toList)]) ∧ Below w.heap.size w w' := by
 have hconv := run_bytes_of_string (P := Tryz.prog) ((w.alloc (.cells #[.int .i64 0] 3)).alloc (.cells #[.bool false] 4)) 9 189 5 s Tryz.underlying9 Tryz.underlying189 Tryz.underlying5
 have hsz := size_pos_of hne
 have HN := kp (isNum_of hne hz)
 by_cases h1 : 1 < s.size
 all_goals (first | replace hz := hz h1 | clear hz)
 all_goals
  go_enter Tryz.func117, Tryz.ntmps117
  go_wp2_with fail
  go_loopw [25] (fun i wr => ∃ k : Nat, k ≤ s.size ∧ i = .int .i64 k ∧ ParseAt s w k wr) (fun i _ => s.size - (intOf i).toNat)
  case atStart =>
   refine ⟨0, Nat.zero_le _, rfl, ?_, ?_, ?_, rfl, ?_⟩
   ·show (((w.heap.push _).push _).push _)[w.heap.size]? = _
    simp only [Array.getElem?_push, Array.size_push]
    rw [if_neg (by omega), if_neg (by omega), if_pos trivial]; rfl
   ·show (((w.heap.push _).push _).push _)[w.heap.size + 1]? = _
    simp only [Array.getElem?_push, Array.size_push]
    rw [if_neg (by omega), if_pos trivial]; rfl
   ·intro j hj
    have := World.cell?_alloc_mark ((w.alloc (.cells #[.int .i64 0] 3)).alloc (.cells #[.bool false] 4)) (bytesRow s (grownCap ((w.alloc (.cells #[.int .i64 0] 3)).alloc (.cells #[.bool false] 4)) s.size 0 5)) 5 ((bytesRow s (grownCap ((w.alloc (.cells #[.int .i64 0] 3)).alloc (.cells #[.bool false] 4)) s.size 0 5)).size, (bytesRow s (grownCap ((w.alloc (.cells #[.int .i64 0] 3)).alloc (.cells #[.bool false] 4)) s.size 0 5)).size + 1) j
    rw [bytesRow_at _ _ _ hj] at this
    simpa using this
   ·exact (((((Below.refl _ _).alloc (Nat.le_refl _) _).alloc (by simp) _).alloc (by simp; omega) _).drew)
  case round =>
   clear hconv
   obtain ⟨k, hk, rfl, hp⟩ := hrel
   have hnc := cell_of_cells hp.n 0
   have hoc := cell_of_cells hp.o 0
   have hnf := frozen_of_cells hp.n 0
   have hof := frozen_of_cells hp.o 0
   by_cases hlt : k < s.size
   ·have hcc := hp.c k hlt
    have hle := putAll_le _ hp.d
    have HP := kp (fun hd => hp.step hlt hd)
    have HX := kp (fun hd => parse_bad (s := s) (k := k) hlt hd HN.out)
    have HB := kp hp.b
    clear hp
    generalize s.data[k] = c at *
    generalize (putAll (0, false) (s.data.toList.take k)).1 = n at *
    generalize (putAll (0, false) (s.data.toList.take k)).2 = o at *
    obtain ⟨hle0, hle1⟩ := hle
    go_wp2_with fail
    ·have hx := HX.out (by unfold isDig; rw [decide_eq_false_iff_not]; omega)
     go_ret2
     exact ⟨pair_int ⟨hx.1.symm, hx.2.symm⟩, HB.out⟩
    ·have hd : isDig c = true := by unfold isDig; rw [decide_eq_true_iff]; omega
     refine (put_any ((c.toNat : Int) % 16) n o w.heap.size (w.heap.size + 1) wr (by omega) (by omega) hle0 hle1 hnc hoc hnf hof).mono ?_
     rintro e w' ⟨rfl, hw⟩
     have HW := kp hw
     clear hw
     go_wp2_with fail
     go_roundw
     case rel => exact ⟨k + 1, by omega, by go_num, by rw [HW.out]; exact HP.out hd⟩
     case measure => simp [intOf]; omega
    ·have hx := HX.out (by unfold isDig; rw [decide_eq_false_iff_not]; omega)
     go_ret2
     exact ⟨pair_int ⟨hx.1.symm, hx.2.symm⟩, HB.out⟩
   ·obtain ⟨e1, e2⟩ := parse_end hlt hp.d HN.out
    have HB := kp hp.b
    rw [e1] at hnc hoc
    have HF := kp (parse_fits e2)
    have HO := kp (parse_over e2)
    clear hp e1 e2
    generalize (putAll (0, false) s.data.toList).1 = n at *
    generalize (putAll (0, false) s.data.toList).2 = o at *
    cases o
    ·go_wp2_with fail
     have hx := HF.out trivial
     go_ret2
     exact ⟨pair_int ⟨hx.1.symm, hx.2.symm⟩, HB.out⟩
    ·go_wp2_with fail
     have hx := HO.out trivial
     go_ret2
     exact ⟨pair_int ⟨hx.1.symm, hx.2.symm⟩, HB.out⟩

theorem byte_toNat_eq {c : UInt8} {n : Nat} (h : ((c.toNat : Int) == (n : Int)) = true) (hn : n < 256) : c = UInt8.ofNat n := by
 rw [beq_iff_eq] at h
 apply UInt8.toNat_inj.1
 rw [UInt8.toNat_ofNat', Nat.mod_eq_of_lt hn]; omega

theorem parse_none {s : ByteArray} (h : s.toList = [] ∨ (1 < s.size ∧ ∃ h : 0 < s.size, (((s[0]'h).toNat : Int) == 48) = true)) : parseV s.data.toList = 0 ∧ parseE s.data.toList = 20 := by
 have : isNum s.data.toList = false := by
  rcases h with h | ⟨h1, h2, h3⟩
  ·rw [ByteArray.toList_eq] at h; rw [h]; rfl
  ·have h5 : s.data.toList.getD 0 0 = s[0]'h2 := by
    rw [List.getD_eq_getElem?_getD, List.getElem?_eq_getElem (by simpa using h2)]; rfl
   have h6 := byte_toNat_eq (n := 48) h3 (by omega)
   unfold isNum
   rw [h5, h6, decide_eq_true (by rw [Array.length_toList]; exact h1)]; simp
 simp [parseV, parseE, this]

set_option maxHeartbeats 800000 in
theorem parse_any (s : ByteArray) (hs : s.size ≤ 140737488351232) (w : World) :
  Calls Tryz.prog 117 #[.string s] w fun e w' => e = .returned (.tuple #[.int .i64 (parseV s.data.toList), .int .i64 (parseE s.data.toList)]) ∧ Below w.heap.size w w' := by
 by_cases h0 : s.toList = []
 ·have HX := kp (parse_none (Or.inl h0))
  go_enter Tryz.func117, Tryz.ntmps117
  go_wp2_with fail
  have hx := HX.out
  go_ret2
  exact ⟨pair_int ⟨hx.1.symm, hx.2.symm⟩, Below.refl _ _⟩
 ·have hne : s.toList.isEmpty = false := by cases h : s.toList <;> simp_all
  by_cases h1 : 1 < s.size
  ·have hsz := size_pos_of hne
   cases hc : (((s[0]'hsz).toNat : Int) == 48) with
   | true =>
    have HX := kp (parse_none (Or.inr ⟨h1, hsz, hc⟩))
    go_enter Tryz.func117, Tryz.ntmps117
    go_wp2_with fail
    have hx := HX.out
    go_ret2
    exact ⟨pair_int ⟨hx.1.symm, hx.2.symm⟩, Below.refl _ _⟩
   | false => exact parse_loop s hs w hne (fun _ _ => hc)
  ·exact parse_loop s hs w hne (fun h => absurd h h1)
end Go.Proofs.YtpmdcckapddchaaGreat
/- The document's Parse. -/
namespace Go.Proofs.YtpmdcckapddchaaGreat
open Go.RowKit

theorem putAll_over (l : List UInt8) : ∀ p : Int × Bool, p.2 = true → (putAll p l).2 = true := by
 induction l with
 | nil => intro p h; exact h
 | cons c l ih =>
  intro p h
  have e : putAll p (c :: l) = putAll (putN p ((c.toNat : Int) % 16)) l := rfl
  rw [e]; apply ih; unfold putN; split <;> simp [h]
theorem put_stop {s : ByteArray} {k : Nat} {n : Int} (hk : k < s.data.size) (h : putAll (0, false) (s.data.toList.take k) = (n, false)) (hd : isDig s.data[k] = true) (hn : (4611686018427387904 - ((s.data[k].toNat : Int) - 48)) / 10 < n) (hN : isNum s.data.toList = true) :
  parseV s.data.toList = 0 ∧ parseE s.data.toList = 10 := by
 have hc : 48 ≤ (s.data[k].toNat : Int) ∧ (s.data[k].toNat : Int) ≤ 57 := by simpa [isDig] using hd
 refine parse_over hN ?_
 have e1 := putAll_snoc (0, false) (s.data.toList.take k) s.data[k]
 rw [← take_next hk, h] at e1
 have e2 : putN (n, false) ((s.data[k].toNat : Int) % 16) = (n, true) := by
  unfold putN; rw [if_pos]; show _ < n
  rw [show (s.data[k].toNat : Int) % 16 = (s.data[k].toNat : Int) - 48 by omega]; exact hn
 rw [e2] at e1
 have e3 : putAll (0, false) s.data.toList = putAll (putAll (0, false) (s.data.toList.take (k + 1))) (s.data.toList.drop (k + 1)) := by
  unfold putAll; rw [← List.foldl_append, List.take_append_drop]
 rw [e3, e1]
 exact putAll_over _ _ rfl
theorem put_go {s : ByteArray} {k : Nat} {n : Int} (hk : k < s.data.size) (h : putAll (0, false) (s.data.toList.take k) = (n, false)) (hd : isDig s.data[k] = true) (hn : ¬ (4611686018427387904 - ((s.data[k].toNat : Int) - 48)) / 10 < n) :
  putAll (0, false) (s.data.toList.take (k + 1)) = (n * 10 + ((s.data[k].toNat : Int) - 48), false) := by
 have hc : 48 ≤ (s.data[k].toNat : Int) ∧ (s.data[k].toNat : Int) ≤ 57 := by simpa [isDig] using hd
 have e1 := putAll_snoc (0, false) (s.data.toList.take k) s.data[k]
 rw [← take_next hk, h] at e1
 rw [e1]
 unfold putN
 rw [show (s.data[k].toNat : Int) % 16 = (s.data[k].toNat : Int) - 48 by omega, if_neg hn]

set_option maxHeartbeats 1600000 in
set_option maxRecDepth 100000 in
theorem rparse_loop (s : ByteArray) (hs : s.size ≤ 140737488351232) (w : World) (hne : s.toList.isEmpty = false) (hz : 1 < s.size → ∀ h : 0 < s.size, (((s[0]'h).toNat : Int) == 48) = false) :
  Calls Tryz.prog 41 #[.string s] w fun e w' => e = .returned (.tuple #[.int .i64 (parseV s.data.toList), .int .i64 (parseE s.data.toList)]) ∧ w = w' := by
 have hsz := size_pos_of hne
 have HN := kp (isNum_of hne hz)
 by_cases h1 : 1 < s.size
 all_goals (first | replace hz := hz h1 | clear hz)
 all_goals
  go_enter Tryz.func41, Tryz.ntmps41
  go_wp2_with fail
 all_goals
  go_loop [4] (fun i => ∃ k : Nat, k ≤ s.size ∧ i = .int .i64 k ∧ (s.data.toList.take k).all isDig = true) (fun i => s.size - (intOf i).toNat)
  case atStart => exact ⟨0, Nat.zero_le _, rfl, rfl⟩
  case round =>
   obtain ⟨k, hk, rfl, hp⟩ := hrel
   have HP := kp hp
   clear hp
   by_cases hlt : k < s.size
   ·have HB := kp (fun hd => parse_bad (s := s) (k := k) hlt hd HN.out)
    have HT := kp (take_next (s := s) (k := k) hlt)
    by_cases h2 : isDig s.data[k] = true
    ·have hc := isDig_iff.1 (show isDig (s[k]'hlt) = true from h2)
     obtain ⟨hc0, hc1⟩ := hc
     have H2 := kp h2
     clear h2
     go_wp2_with fail
     go_round
     case rel => exact ⟨k + 1, by omega, by go_num, by rw [HT.out, List.all_append, HP.out]; simp [H2.out]⟩
     case measure => simp [intOf]; omega
    ·have hc := isDig_no.1 (show isDig (s[k]'hlt) = false from Bool.eq_false_iff.2 h2)
     have H2 := kp h2
     clear h2
     by_cases hc0 : (s[k].toNat : Int) < 48
     all_goals
      go_wp2_with fail
      go_ret2
      have h2 := HB.out (by simpa using H2.out)
      exact ⟨pair_int ⟨h2.1.symm, h2.2.symm⟩, rfl⟩
   ·have he := parse_end hlt HP.out HN.out
    have HD := kp he.2
    have HA := kp (show ∀ j (hj : j < s.data.size), isDig s.data[j] = true from fun j hj => by
     have := HN.out.symm.trans he.2
     rw [List.all_eq_true] at this
     exact this _ (by simp))
    clear he
    go_wp2_with fail
    go_loop [5, 6] (fun t i => ∃ (j : Nat) (n : Int), j ≤ s.size ∧ i = .int .i64 j ∧ t = .int .i64 n ∧ putAll (0, false) (s.data.toList.take j) = (n, false)) (fun _ i => s.size - (intOf i).toNat)
    case atStart => exact ⟨0, 0, Nat.zero_le _, rfl, rfl, rfl⟩
    case round =>
     obtain ⟨j, n, hj, rfl, rfl, hr⟩ := hrel
     have hle := putAll_le (s.data.toList.take j) (by
      rw [List.all_eq_true]; intro x hx
      have := HN.out.symm.trans HD.out
      rw [List.all_eq_true] at this
      exact this x (List.mem_of_mem_take hx))
     rw [hr] at hle
     obtain ⟨hle0, hle1⟩ := hle
     have HR := kp hr
     clear hr
     by_cases hjt : j < s.size
     ·have H2 := kp (HA.out j hjt)
      have hc := isDig_iff.1 (show isDig (s[j]'hjt) = true from HA.out j hjt)
      obtain ⟨hc0, hc1⟩ := hc
      have HS := kp (fun hn => put_stop hjt HR.out H2.out hn HD.out)
      have HG := kp (fun hn => put_go hjt HR.out H2.out hn)
      go_wp2_with fail
      ·go_ret2
       have h2 := HS.out ‹_›
       exact ⟨pair_int ⟨h2.1.symm, h2.2.symm⟩, rfl⟩
      ·go_round
       case rel => exact ⟨j + 1, _, by omega, by go_num, rfl, HG.out (Int.not_lt.2 (show n ≤ (4611686018427387904 - (((s[j]'hjt).toNat : Int) - 48)) / 10 by omega))⟩
       case measure => simp [intOf]; omega
     ·have HF := kp (parse_fits HD.out)
      have HE := kp (show n = (putAll (0, false) s.data.toList).1 ∧ (putAll (0, false) s.data.toList).2 = false by
       have e : s.data.toList.take j = s.data.toList := List.take_of_length_le (by rw [Array.length_toList]; exact Nat.le_of_not_lt hjt)
       have := HR.out; rw [e] at this; rw [this]; exact ⟨rfl, rfl⟩)
      go_wp2_with fail
      go_ret2
      have h2 := HF.out HE.out.2
      exact ⟨pair_int ⟨by rw [h2.1]; exact HE.out.1, h2.2.symm⟩, rfl⟩

set_option maxHeartbeats 800000 in
theorem rparse_any (s : ByteArray) (hs : s.size ≤ 140737488351232) (w : World) :
  Calls Tryz.prog 41 #[.string s] w fun e w' => e = .returned (.tuple #[.int .i64 (parseV s.data.toList), .int .i64 (parseE s.data.toList)]) ∧ w = w' := by
 by_cases h0 : s.toList = []
 ·have HX := kp (parse_none (Or.inl h0))
  go_enter Tryz.func41, Tryz.ntmps41
  go_wp2_with fail
  have hx := HX.out
  go_ret2
  exact ⟨pair_int ⟨hx.1.symm, hx.2.symm⟩, rfl⟩
 ·have hne : s.toList.isEmpty = false := by cases h : s.toList <;> simp_all
  by_cases h1 : 1 < s.size
  ·have hsz := size_pos_of hne
   cases hc : (((s[0]'hsz).toNat : Int) == 48) with
   | true =>
    have HX := kp (parse_none (Or.inr ⟨h1, hsz, hc⟩))
    go_enter Tryz.func41, Tryz.ntmps41
    go_wp2_with fail
    have hx := HX.out
    go_ret2
    exact ⟨pair_int ⟨hx.1.symm, hx.2.symm⟩, rfl⟩
   | false => exact rparse_loop s hs w hne (fun _ _ => hc)
  ·exact rparse_loop s hs w hne (fun h => absurd h h1)
end Go.Proofs.YtpmdcckapddchaaGreat
/- Whether an expression may be: the document's May. -/
namespace Go.Proofs.YtpmdcckapddchaaGreat.Dt
open Go.RowKit

set_option maxHeartbeats 1600000 in
theorem rkey_any (s : ByteArray) (w : World) (hs : (s.size : Int) ≤ 140737488351232) :
  Calls Tryz.prog 42 #[.string s] w fun e w' => e = .returned (.bool (keyB (Lx.bs s))) ∧ w = w' := by
 have HM := kp (show keyB (Lx.bs s) = (((Lx.bs s).all fun c => Lx.signI c.toNat) && !s.toList.isEmpty && decide (s.size ≤ 100)) by unfold keyB; rw [Lx.bs_length, Lx.bs_toList])
 cases he : s.toList.isEmpty with
 | true =>
  have he2 : s.toList = [] := List.isEmpty_iff.1 he
  replace HM := kp (show keyB (Lx.bs s) = false by rw [HM.out, he]; simp)
  clear he
  go_enter Tryz.func42, Tryz.ntmps42
  go_wp2_with fail
  go_ret
  exact ⟨ret_bool HM.out.symm, rfl⟩
 | false =>
  replace HM := kp (show keyB (Lx.bs s) = (((Lx.bs s).all fun c => Lx.signI c.toNat) && decide (s.size ≤ 100)) by rw [HM.out, he]; simp)
  by_cases h1 : s.size ≤ 100
  ·have h : decide ((100 : Int) < (s.size : Int)) = false := decide_eq_false (by omega)
   replace HM := kp (show keyB (Lx.bs s) = ((Lx.bs s).all fun c => Lx.signI c.toNat) by rw [HM.out]; simp [h1])
   go_enter Tryz.func42, Tryz.ntmps42
   go_wp2_with fail
   go_loop [3] (fun v => ∃ k : Nat, k ≤ s.size ∧ v = .int .i64 k ∧ ((Lx.bs s).take k).all (fun c => Lx.signI c.toNat) = true) (fun v => s.size - (intOf v).toNat)
   case atStart => exact ⟨0, Nat.zero_le _, rfl, rfl⟩
   case round =>
    obtain ⟨k, hk, rfl, hall⟩ := hrel
    have HA := kp hall
    clear hall
    by_cases hlt : k < s.size
    ·have hlt2 : (k : Int) < (s.size : Int) := by omega
     have HC := kp (Lx.rsign_any (s[k].toNat : Int) w (by omega) (by have := s[k].toNat_lt; omega))
     have HT := kp (Lx.bs_next hlt)
     have HMm := kp (Lx.bs_mem hlt)
     cases hb : Lx.signI (s[k].toNat : Int) with
     | true =>
      have HB := kp hb
      rw [hb] at HC
      clear hb
      go_wp2_with fail
      refine HC.out.mono ?_
      rintro e w' ⟨rfl, rfl⟩
      go_wp2_with fail
      go_round
      case rel => exact ⟨k + 1, by omega, by go_num, by rw [HT.out, List.all_append, HA.out]; simp [HB.out]⟩
      case measure => simp [intOf]; omega
     | false =>
      have HB := kp (show keyB (Lx.bs s) = false from by rw [HM.out, Bool.eq_false_iff]; intro h; rw [List.all_eq_true] at h; have := h _ HMm.out; rw [hb] at this; cases this)
      rw [hb] at HC
      clear hb
      go_wp2_with fail
      refine HC.out.mono ?_
      rintro e w' ⟨rfl, rfl⟩
      go_wp2_with fail
      go_ret
      exact ⟨ret_bool HB.out.symm, rfl⟩
    ·obtain rfl : k = s.size := by omega
     have HB := kp (show keyB (Lx.bs s) = true from by have h := HA.out; rw [List.take_of_length_le (by rw [Lx.bs_length]; omega)] at h; rw [HM.out, h])
     go_wp2_with fail
     go_ret
     exact ⟨ret_bool HB.out.symm, rfl⟩
  ·have h : (100 : Int) < (s.size : Int) := by omega
   replace HM := kp (show keyB (Lx.bs s) = false by rw [HM.out, decide_eq_false h1]; simp)
   go_enter Tryz.func42, Tryz.ntmps42
   go_wp2_with fail
   go_ret
   exact ⟨ret_bool HM.out.symm, rfl⟩

def RStandsAt (y : Sexp) : Prop := ∀ (W : World) (A : Option Addr) (c : Nat), SexpR W [.int .i8 y.kind, .string y.text, .slice A y.l.length c] y → Calls Tryz.prog 27 #[.agg #[.int .i8 y.kind, .string y.text, .slice A y.l.length c]] W fun e w' => e = .returned (.bool y.stands) ∧ Below W.heap.size W w'
theorem stands_full {x : Sexp} (h3 : x.kind ≠ 3) (hl : 0 < x.l.length) : x.stands = false := by
 have he : x.l.isEmpty = false := by rw [List.isEmpty_eq_false_iff, ← List.length_pos_iff]; exact hl
 rw [Sexp.stands_eq, he]
 simp [h3]
theorem stands_leaf {x : Sexp} (hl : x.l.length = 0) : x.stands = if x.kind = 0 then Lx.mayB (Lx.bs x.text) else if x.kind = 1 then numB (Lx.bs x.text) else if x.kind = 2 then keyB (Lx.bs x.text) else if x.kind = 3 then (Lx.bs x.text).isEmpty && Sexp.standsL x.l else false := by
 have he : x.l.isEmpty = true := by rw [List.isEmpty_iff, ← List.length_eq_zero_iff]; exact hl
 rw [Sexp.stands_eq, he]
 simp
theorem rnumB_iff (s : ByteArray) : numB (Lx.bs s) = (decide (parseE s.data.toList ≠ 20) && decide (s.size ≤ 100)) := by
 rw [← Lx.bs_length]
 unfold numB parseE
 show (isNum (Lx.bs s) && _) = _
 cases h : isNum (Lx.bs s)
 ·have h' : isNum s.data.toList = false := h
  simp [h']
 ·have h' : isNum s.data.toList = true := h
  simp [h']
  split <;> simp

set_option maxRecDepth 100000 in
set_option maxHeartbeats 6400000 in
theorem rstands_step (x : Sexp) (hs : ∀ y ∈ x.l, RStandsAt y) : RStandsAt x := by
 intro w A c hr
 obtain ⟨A0, c0, e0, hl, hc, hcm, htx, hlb, _⟩ := hr.open'
 simp only [List.cons.injEq, Value.slice.injEq, and_true, true_and] at e0
 obtain ⟨rfl, rfl⟩ := e0
 have HF := kp (fun h3 hl => stands_full (x := x) h3 hl)
 have HE := kp (fun hl => stands_leaf (x := x) hl)
 have HQ := kp (Sexp.stands_eq x)
 obtain ⟨q0, q1, q2, z0⟩ := box_cells w (.int .i8 x.kind) (.string x.text) (.slice A x.l.length c) 30
 have B0 := kp ((Below.refl w.heap.size w).alloc (Nat.le_refl _) (.cells #[.int .i8 x.kind, .string x.text, .slice A x.l.length c] 30))
 have HM := kp (fun W => Lx.rmay_any x.text W (by omega))
 have HP := kp (fun W => rparse_any x.text (by omega) W)
 have HK := kp (fun W => rkey_any x.text W (by omega))
 have HN := kp (rnumB_iff x.text)
 by_cases h3 : x.kind = 3
 ·have HX := kp (show x.stands = ((Lx.bs x.text).isEmpty && Sexp.standsL x.l) by rw [HQ.out, h3]; rfl)
  have HS := kp hs
  have HL := kp (hl.on SexpR.lasts B0.out)
  have HA := kp (Sexp.standsL_all x.l)
  have HT := kp (show (Lx.bs x.text).isEmpty = x.text.toList.isEmpty by rw [Lx.bs_toList])
  rw [h3] at q0 q1 q2 z0 B0 HL ⊢
  generalize x.stands = st at *
  generalize x.text = t at *
  generalize x.l = l at *
  clear HF HE HQ hs hl hr h3 HM HP HK HN
  go_enter Tryz.func27, Tryz.ntmps27
  go_wp2_with fail
  generalize w.alloc (.cells #[.int .i8 3, .string t, .slice A l.length c] 30) = w0 at *
  go_loopw [5] (fun v wr => ∃ k : Nat, k ≤ l.length ∧ v = .int .i64 k ∧ (l.take k).all Sexp.stands = true ∧ Below w0.heap.size w0 wr) (fun v _ => l.length - (intOf v).toNat)
  case atStart => exact ⟨0, Nat.zero_le _, rfl, rfl, Below.refl _ _⟩
  case round =>
   obtain ⟨k, hk, rfl, hn, hb⟩ := hrel
   have HNN := kp hn
   have HB := kp hb
   have p0 := ((bcell hb).1 w.heap.size 0 (by omega)).trans q0
   have p1 := ((bcell hb).1 w.heap.size 1 (by omega)).trans q1
   have p2 := ((bcell hb).1 w.heap.size 2 (by omega)).trans q2
   clear hn
   by_cases hlt : k < l.length
   ·have hlt2 : (k : Int) < (l.length : Int) := by omega
    have hy := List.getElem?_eq_getElem hlt
    have hym := List.getElem_mem hlt
    generalize l[k] = y at hy hym
    obtain ⟨b, o, A', c', rfl, hbl, e0, e1, e2, hr⟩ := sexp_cells (HL.out.on SexpR.lasts hb) hy
    have HC := kp (HS.out y hym wr A' c' hr)
    have HY := kp hy
    have HMm := kp hym
    clear hb hr hy hym q0 q1 q2
    cases hq : y.stands with
    | true =>
     have HQ := kp (show (l.take (k + 1)).all Sexp.stands = true by rw [List.take_add_one, HY.out, List.all_append, HNN.out]; simpa using hq)
     rw [hq] at HC
     clear hq
     go_wp2_with fail
     refine HC.out.mono ?_
     rintro e w2 ⟨rfl, hb2⟩
     have HB2 := kp (HB.out.trans (hb2.mono HB.out.size))
     clear hb2
     go_wp2_with fail
     go_roundw
     case rel => exact ⟨k + 1, by omega, by go_num, HQ.out, HB2.out⟩
     case measure => simp [intOf]; omega
    | false =>
     have HQ := kp (show Sexp.standsL l = false by rw [HA.out, List.all_eq_false]; exact ⟨y, HMm.out, by rw [hq]; simp⟩)
     rw [hq] at HC
     clear hq
     go_wp2_with fail
     refine HC.out.mono ?_
     rintro e w2 ⟨rfl, hb2⟩
     have HB2 := kp (B0.out.trans ((HB.out.trans (hb2.mono HB.out.size)).mono (by omega)))
     clear hb2
     go_wp2_with fail
     go_ret
     exact ⟨ret_bool (by rw [HX.out, HQ.out]; simp), HB2.out⟩
   ·obtain rfl : k = l.length := by omega
    have HQ := kp (show Sexp.standsL l = true by have h := HNN.out; rw [List.take_length] at h; rw [HA.out]; exact h)
    have HB2 := kp (B0.out.trans (HB.out.mono (by omega)))
    clear hb q0 q1 q2
    go_wp2_with fail
    go_ret
    exact ⟨ret_bool (by rw [HX.out, HQ.out, HT.out]; simp), HB2.out⟩
 ·have n3 : (x.kind == 3) = false := beq_eq_false_iff_ne.2 h3
  have n3b : (x.kind != 3) = true := by rw [bne, n3]; rfl
  by_cases hl0 : 0 < x.l.length
  ·have hl1 : (0 : Int) < (x.l.length : Int) := by omega
   have HX := kp (HF.out h3 hl0)
   clear HF HE HQ hs hl hr h3 HM HP HK HN
   go_enter Tryz.func27, Tryz.ntmps27
   go_wp2_with fail
   go_ret
   exact ⟨ret_bool HX.out.symm, B0.out⟩
  ·have hl1 : x.l.length = 0 := by omega
   have HX := kp (HE.out hl1)
   rw [hl1] at q0 q1 q2 z0 B0 ⊢
   clear HF HE HQ hs hl hr hl0 hl1
   generalize x.stands = st at *
   generalize Lx.mayB (Lx.bs x.text) = b0 at *
   generalize numB (Lx.bs x.text) = b1 at *
   generalize keyB (Lx.bs x.text) = b2 at *
   generalize parseE x.text.data.toList = pe at *
   generalize parseV x.text.data.toList = pv at *
   by_cases h0 : x.kind = 0
   ·replace HX := kp (HX.out.trans (if_pos h0))
    rw [h0] at q0 q1 q2 z0 B0 ⊢
    clear h0 h3 n3 n3b
    go_enter Tryz.func27, Tryz.ntmps27
    go_wp2_with fail
    refine (HM.out _).mono ?_
    rintro e w' ⟨rfl, rfl⟩
    go_wp2_with fail
    go_ret
    exact ⟨ret_bool HX.out.symm, B0.out⟩
   ·have n0 : (x.kind == 0) = false := beq_eq_false_iff_ne.2 h0
    replace HX := kp (HX.out.trans (if_neg h0))
    by_cases h1 : x.kind = 1
    ·replace HX := kp (HX.out.trans (if_pos h1))
     rw [h1] at q0 q1 q2 z0 B0 ⊢
     clear h0 h1 h3 n3 n0 n3b
     by_cases hp : pe = 20
     ·subst hp
      replace HX := kp (show st = false by rw [HX.out, HN.out]; simp)
      go_enter Tryz.func27, Tryz.ntmps27
      go_wp2_with fail
      refine (HP.out _).mono ?_
      rintro e w' ⟨rfl, rfl⟩
      go_wp2_with fail
      go_ret
      exact ⟨ret_bool HX.out.symm, B0.out⟩
     ·have hp1 : (pe == 20) = false := beq_eq_false_iff_ne.2 hp
      have hp2 : (pe != 20) = true := by rw [bne, hp1]; rfl
      by_cases h2 : x.text.size ≤ 100
      ·have h2' : (x.text.size : Int) ≤ 100 := by omega
       replace HX := kp (show st = true by rw [HX.out, HN.out]; simp [hp, h2])
       go_enter Tryz.func27, Tryz.ntmps27
       go_wp2_with fail
       refine (HP.out _).mono ?_
       rintro e w' ⟨rfl, rfl⟩
       go_wp2_with fail
       go_ret
       exact ⟨ret_bool HX.out.symm, B0.out⟩
      ·have h2' : decide ((x.text.size : Int) ≤ 100) = false := decide_eq_false (by omega)
       replace HX := kp (show st = false by rw [HX.out, HN.out]; simp [h2])
       go_enter Tryz.func27, Tryz.ntmps27
       go_wp2_with fail
       refine (HP.out _).mono ?_
       rintro e w' ⟨rfl, rfl⟩
       go_wp2_with fail
       go_ret
       exact ⟨ret_bool HX.out.symm, B0.out⟩
    ·have n1 : (x.kind == 1) = false := beq_eq_false_iff_ne.2 h1
     replace HX := kp (HX.out.trans (if_neg h1))
     by_cases h2 : x.kind = 2
     ·replace HX := kp (HX.out.trans (if_pos h2))
      rw [h2] at q0 q1 q2 z0 B0 ⊢
      clear h0 h1 h2 h3 n3 n0 n1 n3b
      go_enter Tryz.func27, Tryz.ntmps27
      go_wp2_with fail
      refine (HK.out _).mono ?_
      rintro e w' ⟨rfl, rfl⟩
      go_wp2_with fail
      go_ret
      exact ⟨ret_bool HX.out.symm, B0.out⟩
     ·have n2 : (x.kind == 2) = false := beq_eq_false_iff_ne.2 h2
      replace HX := kp ((HX.out.trans (if_neg h2)).trans (if_neg h3))
      clear h0 h1 h2 h3
      go_enter Tryz.func27, Tryz.ntmps27
      go_wp2_with fail
      go_ret
      exact ⟨ret_bool HX.out.symm, B0.out⟩
theorem rstands_all : ∀ (n : Nat) (x : Sexp), SizeOf.sizeOf x < n → RStandsAt x := by
 intro n
 induction n with
 | zero => intro x hx; omega
 | succ n ih => exact fun x hx => rstands_step x fun y hy => ih y (by have := Sexp.mem_lt hy; omega)
set_option maxHeartbeats 1600000 in
theorem rsxmay_any {w : World} {A : Option Addr} {c : Nat} {x : Sexp} (h : SexpR w [.int .i8 x.kind, .string x.text, .slice A x.l.length c] x) :
  Calls Tryz.prog 12 #[.agg #[.int .i8 x.kind, .string x.text, .slice A x.l.length c]] w fun e w' => e = .returned (.bool x.may) ∧ Below w.heap.size w w' := by
 obtain ⟨q0, q1, q2, z0⟩ := box_cells w (.int .i8 x.kind) (.string x.text) (.slice A x.l.length c) 30
 have HB := kp ((Below.refl w.heap.size w).alloc (Nat.le_refl _) (.cells #[.int .i8 x.kind, .string x.text, .slice A x.l.length c] 30))
 have HR := kp (SexpR.lasts _ _ _ _ HB.out h)
 have HD := kp (rdepth_any _ x (Nat.lt_succ_self _) _ A c HR.out)
 have HS := kp (rstands_all _ x (Nat.lt_succ_self _))
 have HM := kp (show x.may = (decide (x.depth ≤ 60) && x.stands) from rfl)
 clear h
 go_enter Tryz.func12, Tryz.ntmps12
 go_wp2_with fail
 generalize w.alloc (.cells #[.int .i8 x.kind, .string x.text, .slice A x.l.length c] 30) = w0 at *
 refine HD.out.mono ?_
 rintro e w1 ⟨rfl, hb⟩
 have hs := HS.out w1 A c (SexpR.lasts _ _ _ _ hb HR.out)
 have p0 := ((bcell hb).1 w.heap.size 0 (by omega)).trans q0
 have p1 := ((bcell hb).1 w.heap.size 1 (by omega)).trans q1
 have p2 := ((bcell hb).1 w.heap.size 2 (by omega)).trans q2
 have HB1 := kp (HB.out.trans (hb.mono HB.out.size))
 clear hb q0 q1 q2
 by_cases hd : x.depth ≤ 60
 ·go_wp2_with fail
  refine hs.mono ?_
  rintro e w2 ⟨rfl, hb⟩
  have HB2 := kp (HB1.out.trans (hb.mono HB1.out.size))
  clear hb
  go_wp2_with fail
  go_ret
  exact ⟨ret_bool (by rw [HM.out, decide_eq_true hd]; rfl), HB2.out⟩
 ·have hd2 := decide_eq_false hd
  clear hs
  go_wp2_with fail
  go_ret
  exact ⟨ret_bool (by rw [HM.out, hd2]; rfl), HB1.out⟩
end Go.Proofs.YtpmdcckapddchaaGreat.Dt
