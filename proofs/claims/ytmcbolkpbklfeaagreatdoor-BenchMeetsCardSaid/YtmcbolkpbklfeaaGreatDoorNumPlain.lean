/- What the functions of layer 1 answer, in plain words: no condition. -/
import Derived.Test.YtmcbolkpbklfeaaGreatDoorBase
namespace Go.Proofs.YtmcbolkpbklfeaaGreatDoor
open Go.RowKit

/-- whether a number may be -/
def mayB (n : Int) : Bool := decide (-4611686018427387904 ≤ n ∧ n ≤ 4611686018427387904)
theorem mayB_iff {n : Int} : mayB n = true ↔ (-4611686018427387904 ≤ n ∧ n ≤ 4611686018427387904) := by simp [mayB]
theorem mayB_no {n : Int} : mayB n = false ↔ (n < -4611686018427387904 ∨ 4611686018427387904 < n) := by
  rw [Bool.eq_false_iff, Ne, mayB_iff]; omega

/-- what 'within' answers -/
def winB (n : Int) (zs : List Int) : Bool := zs.all mayB && mayB n
def winV (n : Int) (zs : List Int) : Int := if winB n zs then n else 0
def winE (n : Int) (zs : List Int) : Int := if winB n zs then 0 else 10
theorem winV_yes {n : Int} {zs : List Int} (h : ∀ x ∈ zs ++ [n], mayB x = true) : winV n zs = n ∧ winE n zs = 0 := by
  have : winB n zs = true := by simp [winB]; exact ⟨fun x hx => h x (by simp [hx]), h n (by simp)⟩
  simp [winV, winE, this]
theorem winV_no {n x : Int} {zs : List Int} (hx : x ∈ zs ++ [n]) (h : mayB x = false) : winV n zs = 0 ∧ winE n zs = 10 := by
  have : winB n zs = false := by
    rw [Bool.eq_false_iff]; intro hw
    simp [winB] at hw
    rcases List.mem_append.1 hx with h1 | h1
    · rw [hw.1 x h1] at h; cases h
    · simp at h1; subst h1; rw [hw.2] at h; cases h
  simp [winV, winE, this]

/-- P1.1 -/
def okAdd (a b : Int) : Bool := mayB a && mayB b && mayB (a + b)
def addV (a b : Int) : Int := if okAdd a b then a + b else 0
def addE (a b : Int) : Int := if okAdd a b then 0 else 10
def okSub (a b : Int) : Bool := mayB a && mayB b && mayB (a - b)
def subV (a b : Int) : Int := if okSub a b then a - b else 0
def subE (a b : Int) : Int := if okSub a b then 0 else 10
theorem winB_add (a b : Int) : winB (wrap64 (a + b)) [a, b] = okAdd a b := by
  rw [Bool.eq_iff_iff]; simp only [winB, okAdd, List.all_cons, List.all_nil, Bool.and_true, Bool.and_eq_true, mayB_iff]; unfold wrap64; omega
theorem winB_sub (a b : Int) : winB (wrap64 (a - b)) [a, b] = okSub a b := by
  rw [Bool.eq_iff_iff]; simp only [winB, okSub, List.all_cons, List.all_nil, Bool.and_true, Bool.and_eq_true, mayB_iff]; unfold wrap64; omega
theorem okAdd_wrap {a b : Int} (h : okAdd a b = true) : wrap64 (a + b) = a + b := by
  simp only [okAdd, Bool.and_eq_true, mayB_iff] at h; unfold wrap64; omega
theorem okSub_wrap {a b : Int} (h : okSub a b = true) : wrap64 (a - b) = a - b := by
  simp only [okSub, Bool.and_eq_true, mayB_iff] at h; unfold wrap64; omega
theorem win_add (a b : Int) : winV (wrap64 (a + b)) [a, b] = addV a b ∧ winE (wrap64 (a + b)) [a, b] = addE a b := by
  unfold winV winE addV addE; rw [winB_add]
  refine ⟨?_, rfl⟩
  by_cases h : okAdd a b = true
  · simp [h, okAdd_wrap h]
  · simp [h]
theorem win_sub (a b : Int) : winV (wrap64 (a - b)) [a, b] = subV a b ∧ winE (wrap64 (a - b)) [a, b] = subE a b := by
  unfold winV winE subV subE; rw [winB_sub]
  refine ⟨?_, rfl⟩
  by_cases h : okSub a b = true
  · simp [h, okSub_wrap h]
  · simp [h]
theorem addV_I64 (a b : Int) : I64 (addV a b) := by
  unfold addV; by_cases h : okAdd a b = true
  · rw [if_pos h, ← okAdd_wrap h]; exact I64_wrap _
  · rw [if_neg h]; unfold I64; omega
theorem subV_I64 (a b : Int) : I64 (subV a b) := by
  unfold subV; by_cases h : okSub a b = true
  · rw [if_pos h, ← okSub_wrap h]; exact I64_wrap _
  · rw [if_neg h]; unfold I64; omega

/-- P1.2: the digits put together, and whether that went too far on the way: what 'put' does, digit by digit -/
def putN (p : Int × Bool) (d : Int) : Int × Bool := if (4611686018427387904 - d) / 10 < p.1 then (p.1, true) else (p.1 * 10 + d, p.2)
def putAll (p : Int × Bool) (l : List UInt8) : Int × Bool := l.foldl (fun p c => putN p ((c.toNat : Int) % 16)) p
def isDig (c : UInt8) : Bool := decide (48 ≤ (c.toNat : Int) ∧ (c.toNat : Int) ≤ 57)
theorem isDig_iff {c : UInt8} : isDig c = true ↔ 48 ≤ (c.toNat : Int) ∧ (c.toNat : Int) ≤ 57 := by simp [isDig]
theorem isDig_no {c : UInt8} : isDig c = false ↔ ((c.toNat : Int) < 48 ∨ 57 < (c.toNat : Int)) := by
  rw [Bool.eq_false_iff, Ne, isDig_iff]; omega
def isNum (l : List UInt8) : Bool := !l.isEmpty && !(decide (1 < l.length) && l.getD 0 0 == 48) && l.all isDig
def parseV (l : List UInt8) : Int := if isNum l then (if (putAll (0, false) l).2 then 0 else (putAll (0, false) l).1) else 0
def parseE (l : List UInt8) : Int := if isNum l then (if (putAll (0, false) l).2 then 10 else 0) else 20

/-- P1.3 -/
def sumStep (most : Int) (p : Option Int) (n : Int) : Option Int := p.bind fun s => if mayB n && decide (n.natAbs < most - s) then some (s + n.natAbs + 1) else none
def sumAll (most : Int) (l : List Int) : Option Int := l.foldl (sumStep most) (some 0)
def within0 (most : Int) : Int := min (max most 0) 4611686018427387904
def sumV (l : List Int) (most : Int) : Int := (sumAll (within0 most) l).getD 0
def sumB (l : List Int) (most : Int) : Bool := (sumAll (within0 most) l).isSome
end Go.Proofs.YtmcbolkpbklfeaaGreatDoor
