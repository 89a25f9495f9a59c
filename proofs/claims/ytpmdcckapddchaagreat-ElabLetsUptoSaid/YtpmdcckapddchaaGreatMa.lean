import Derived.Test.YtpmdcckapddchaaGreatShort
import Derived.Test.YtpmdcckapddchaaGreatBase
import Derived.WalkLawsBesides
import Derived.ProofKit
import Derived.OpenShut
import Derived.Carry
import Derived.LaidMore
import Derived.MakeChecks
import Derived.Deep.DeepHandedRow
import Derived.Deep.Slices
import Derived.Deep.Fields
/- merged by wip/merge.py from: LexA LexB LexP NumPlain Frame Law Lies Sig SexpPlain -/
/- lex: the bytes' questions, those of the program and those of the document. -/
namespace Go.Proofs.YtpmdcckapddchaaGreat.Lx
open Go.RowKit

def bs (s : ByteArray) : List UInt8 := s.data.toList
theorem bs_toList (s : ByteArray) : s.toList = bs s := ByteArray.toList_eq s
theorem bs_length (s : ByteArray) : (bs s).length = s.size := by unfold bs; simp
theorem bs_inj {s t : ByteArray} : bs s = bs t ↔ s = t := by
 unfold bs
 constructor
 ·intro h
  cases s; cases t; congr 1; exact Array.toList_inj.1 h
 ·intro h; rw [h]
theorem bs_mem {s : ByteArray} {k : Nat} (hk : k < s.size) : s[k] ∈ bs s := by unfold bs; exact Array.mem_toList_iff.2 (Array.getElem_mem _)
theorem bs_next {s : ByteArray} {k : Nat} (hk : k < s.size) : (bs s).take (k + 1) = (bs s).take k ++ [s[k]] := by
 unfold bs
 rw [List.take_succ_eq_append_getElem (by simpa using hk)]; rfl
theorem bs_at {s : ByteArray} {k : Nat} (hk : k < s.size) : (bs s)[k]? = some s[k] := by
 unfold bs
 rw [List.getElem?_eq_getElem (by simpa using hk)]; rfl

def whiteI (c : Int) : Bool := decide (c = 32 ∨ c = 9 ∨ c = 10 ∨ c = 13)
def digitI (c : Int) : Bool := decide (48 ≤ c ∧ c ≤ 57)
def insideI (c : Int) : Bool := decide (c ≠ 124 ∧ c ≠ 92 ∧ ((32 ≤ c ∧ c ≤ 126) ∨ c = 9 ∨ c = 10 ∨ c = 13))
def signI (c : Int) : Bool := decide ((65 ≤ c ∧ c ≤ 90) ∨ (97 ≤ c ∧ c ≤ 122) ∨ (48 ≤ c ∧ c ≤ 57) ∨ c = 126 ∨ c = 33 ∨ c = 64 ∨ c = 36 ∨ c = 37 ∨ c = 94 ∨ c = 38 ∨ c = 42 ∨ c = 95 ∨ c = 45 ∨ c = 43 ∨ c = 61 ∨ c = 60 ∨ c = 62 ∨ c = 46 ∨ c = 63 ∨ c = 47)

set_option maxHeartbeats 800000 in
theorem white_any (c : Int) (w : World) :
  Calls Tryz.prog 184 #[.int .u8 c] w fun e w' => e = .returned (.bool (whiteI c)) ∧ w = w' := by
 go_enter Tryz.func184, Tryz.ntmps184
 go_wp2_with fail
 all_goals
  go_ret
  exact ⟨ret_bool (by rw [Bool.eq_iff_iff]; simp [whiteI]; try omega), rfl⟩
set_option maxHeartbeats 800000 in
theorem digit_any (c : Int) (w : World) (h0 : 0 ≤ c) (h1 : c ≤ 255) :
  Calls Tryz.prog 190 #[.int .u8 c] w fun e w' => e = .returned (.bool (digitI c)) ∧ w = w' := by
 by_cases h2 : 48 ≤ c
 ·go_enter Tryz.func190, Tryz.ntmps190
  go_wp2_with fail
  all_goals
   go_ret
   exact ⟨ret_bool (by rw [Bool.eq_iff_iff]; simp [digitI]; try omega), rfl⟩
 ·go_enter Tryz.func190, Tryz.ntmps190
  go_wp2_with fail
  all_goals
   go_ret
   exact ⟨ret_bool (by rw [Bool.eq_iff_iff]; simp [digitI]; try omega), rfl⟩
set_option maxHeartbeats 800000 in
theorem inside_any (c : Int) (w : World) :
  Calls Tryz.prog 153 #[.int .u8 c] w fun e w' => e = .returned (.bool (insideI c)) ∧ w = w' := by
 have HW := kp (white_any c w)
 have HQ := kp (show whiteI c = decide (c = 32 ∨ c = 9 ∨ c = 10 ∨ c = 13) from rfl)
 generalize whiteI c = b at *
 go_enter Tryz.func153, Tryz.ntmps153
 go_wp2_with (go_at_call 184; refine HW.out.mono ?_; rintro e w' ⟨rfl, rfl⟩)
 all_goals
  go_ret
  have hq := HQ.out
  exact ⟨ret_bool (by rw [Bool.eq_iff_iff]; simp [insideI, hq]; try omega), rfl⟩
theorem low_bits : ∀ n : Nat, n < 64 → (bits BinOp.and IntKind.u64 (17582031444648132608 / 2 ^ n) 1 == 1) = signI (n : Int) := by
 intro n hn
 exact (show ∀ n : Fin 64, (bits BinOp.and IntKind.u64 (17582031444648132608 / 2 ^ n.val) 1 == 1) = signI (n.val : Int) by decide +kernel) ⟨n, hn⟩
theorem high_bits : ∀ n : Nat, n < 64 → (bits BinOp.and IntKind.u64 (5188146765496319999 / 2 ^ n) 1 == 1) = signI ((n + 64 : Nat) : Int) := by
 intro n hn
 exact (show ∀ n : Fin 64, (bits BinOp.and IntKind.u64 (5188146765496319999 / 2 ^ n.val) 1 == 1) = signI ((n.val + 64 : Nat) : Int) by decide +kernel) ⟨n, hn⟩
set_option maxHeartbeats 800000 in
theorem sign_any (c : Int) (w : World) (h0 : 0 ≤ c) (h1 : c ≤ 255) :
  Calls Tryz.prog 156 #[.int .u8 c] w fun e w' => e = .returned (.bool (signI c)) ∧ w = w' := by
 obtain ⟨n, rfl⟩ := Int.eq_ofNat_of_zero_le h0
 by_cases h2 : n < 64
 ·have h2' : (n : Int) < 64 := by omega
  have HB := kp (low_bits n h2)
  go_enter Tryz.func156, Tryz.ntmps156
  go_wp2_with fail
  go_ret
  exact ⟨ret_bool (by rw [← HB.out]), rfl⟩
 ·have h2' := decide_eq_false (show ¬ (n : Int) < 64 by omega)
  by_cases h3 : n < 128
  ·obtain ⟨m, rfl⟩ : ∃ m, n = m + 64 := ⟨n - 64, by omega⟩
   have h3' : ((m + 64 : Nat) : Int) < 128 := by omega
   have h4 : 0 ≤ ((m + 64 : Nat) : Int) - 64 := by omega
   have HB := kp (high_bits m (by omega))
   have HE := kp (show (((m + 64 : Nat) : Int) - 64).toNat = m by omega)
   generalize ((m + 64 : Nat) : Int) = x at *
   go_enter Tryz.func156, Tryz.ntmps156
   go_wp2_with fail
   go_ret
   exact ⟨ret_bool (by have h := HB.out; rw [← HE.out] at h; exact h), rfl⟩
  ·have h3' := decide_eq_false (show ¬ (n : Int) < 128 by omega)
   have HS := kp (show false = signI (n : Int) by rw [eq_comm, Bool.eq_false_iff]; simp [signI]; omega)
   go_enter Tryz.func156, Tryz.ntmps156
   go_wp2_with fail
   go_ret
   exact ⟨ret_bool HS.out, rfl⟩

def resL : List (List UInt8) := [[95], [33], [97, 115], [108, 101, 116], [101, 120, 105, 115, 116, 115], [102, 111, 114, 97, 108, 108], [109, 97, 116, 99, 104], [112, 97, 114]]
def resB (l : List UInt8) : Bool := resL.contains l
set_option maxHeartbeats 1600000 in
theorem reserved_any (s : ByteArray) (w : World) :
  Calls Tryz.prog 51 #[.string s] w fun e w' => e = .returned (.bool (resB (bs s))) ∧ w = w' := by
 go_enter Tryz.func51, Tryz.ntmps51
 go_wp2_with fail
 all_goals
  go_ret
  exact ⟨ret_bool (by rw [← bs_toList]; simp_all [resB, resL]), rfl⟩
end Go.Proofs.YtpmdcckapddchaaGreat.Lx
/- lex: names. -/
namespace Go.Proofs.YtpmdcckapddchaaGreat.Lx
open Go.RowKit

set_option maxHeartbeats 800000 in
theorem all_inside (s : ByteArray) (w : World) (hs : (s.size : Int) ≤ 9223372036854775807) :
  Calls Tryz.prog 152 #[.string s, .func (Fn.func 153) #[] #[]] w fun e w' => e = .returned (.bool ((bs s).all fun c => insideI c.toNat)) ∧ w = w' := by
 go_enter Tryz.func152, Tryz.ntmps152
 go_wp2_with fail
 go_loop [8, 5] (fun v _ => ∃ k : Nat, k ≤ s.size ∧ v = .int .i64 k ∧ ((bs s).take k).all (fun c => insideI c.toNat) = true) (fun v _ => s.size - (intOf v).toNat)
 case atStart => exact ⟨0, Nat.zero_le _, rfl, rfl⟩
 case round =>
  obtain ⟨k, hk, rfl, hall⟩ := hrel
  have HA := kp hall
  clear hall
  by_cases hlt : k < s.size
  ·have hlt2 : (k : Int) < (s.size : Int) := by omega
   have HC := kp ((fun c w _ _ => inside_any c w) (s[k].toNat : Int) w (by omega) (by have := s[k].toNat_lt; omega))
   have HT := kp (bs_next hlt)
   have HM := kp (show s[k] ∈ (bs s) from bs_mem hlt)
   cases hb : insideI (s[k].toNat : Int) with
   | true =>
    have HB := kp hb
    rw [hb] at HC
    clear hb
    go_wp2_with fail
    refine HC.out.mono ?_
    rintro e w' ⟨rfl, rfl⟩
    go_wp2_with fail
    go_round
    case rel => exact ⟨k + 1, by omega, by go_num, by rw [HT.out, List.all_append, HA.out]; simp [HB.out]⟩
    case measure => simp [intOf]; omega
   | false =>
    have HB := kp (show ((bs s).all fun c => insideI c.toNat) = false from by rw [Bool.eq_false_iff]; intro h; rw [List.all_eq_true] at h; have := h _ HM.out; rw [hb] at this; cases this)
    rw [hb] at HC
    clear hb
    go_wp2_with fail
    refine HC.out.mono ?_
    rintro e w' ⟨rfl, rfl⟩
    go_wp2_with fail
    go_ret
    exact ⟨ret_bool HB.out.symm, rfl⟩
  ·obtain rfl : k = s.size := by omega
   have HB := kp (show ((bs s).all fun c => insideI c.toNat) = true from by have h := HA.out; rwa [List.take_of_length_le (by rw [bs_length]; omega)] at h)
   go_wp2_with fail
   go_ret
   exact ⟨ret_bool HB.out.symm, rfl⟩
def mayB (l : List UInt8) : Bool := decide (l.length ≤ 100) && l.all fun c => insideI c.toNat
set_option maxHeartbeats 800000 in
theorem may_any (s : ByteArray) (w : World) (hs : (s.size : Int) ≤ 9223372036854775807) :
  Calls Tryz.prog 96 #[.string s] w fun e w' => e = .returned (.bool (mayB (bs s))) ∧ w = w' := by
 have HA := kp (all_inside s w hs)
 have HM := kp (show mayB (bs s) = (decide (s.size ≤ 100) && (bs s).all fun c => insideI c.toNat) by unfold mayB; rw [bs_length])
 generalize ((bs s).all fun c => insideI c.toNat) = b at *
 by_cases h1 : s.size ≤ 100
 ·have h : (s.size : Int) ≤ 100 := by omega
  go_enter Tryz.func96, Tryz.ntmps96
  go_wp2_with fail
  refine HA.out.mono ?_
  rintro e w' ⟨rfl, rfl⟩
  go_wp2_with fail
  go_ret
  exact ⟨ret_bool (by rw [HM.out]; simp [h1]), rfl⟩
 ·have h : decide ((s.size : Int) ≤ 100) = false := decide_eq_false (by omega)
  go_enter Tryz.func96, Tryz.ntmps96
  go_wp2_with fail
  go_ret
  exact ⟨ret_bool (by rw [HM.out]; simp [h1]), rfl⟩
end Go.Proofs.YtpmdcckapddchaaGreat.Lx
/- lex in plain words: how a name is written. No program in sight. -/
namespace Go.Proofs.YtpmdcckapddchaaGreat.Lx
open Go.RowKit

theorem bs_mk (l : List UInt8) : bs ⟨l.toArray⟩ = l := by unfold bs; simp
end Go.Proofs.YtpmdcckapddchaaGreat.Lx
/- What the functions of layer 1 answer, in plain words: no condition. -/
namespace Go.Proofs.YtpmdcckapddchaaGreat
open Go.RowKit

def mayB (n : Int) : Bool := decide (-4611686018427387904 ≤ n ∧ n ≤ 4611686018427387904)
theorem mayB_iff {n : Int} : mayB n = true ↔ (-4611686018427387904 ≤ n ∧ n ≤ 4611686018427387904) := by simp [mayB]
def putN (p : Int × Bool) (d : Int) : Int × Bool := if (4611686018427387904 - d) / 10 < p.1 then (p.1, true) else (p.1 * 10 + d, p.2)
def putAll (p : Int × Bool) (l : List UInt8) : Int × Bool := l.foldl (fun p c => putN p ((c.toNat : Int) % 16)) p
def isDig (c : UInt8) : Bool := decide (48 ≤ (c.toNat : Int) ∧ (c.toNat : Int) ≤ 57)
theorem isDig_iff {c : UInt8} : isDig c = true ↔ 48 ≤ (c.toNat : Int) ∧ (c.toNat : Int) ≤ 57 := by simp [isDig]
theorem isDig_no {c : UInt8} : isDig c = false ↔ ((c.toNat : Int) < 48 ∨ 57 < (c.toNat : Int)) := by
 rw [Bool.eq_false_iff, Ne, isDig_iff]; omega
def isNum (l : List UInt8) : Bool := !l.isEmpty && !(decide (1 < l.length) && l.getD 0 0 == 48) && l.all isDig
def parseV (l : List UInt8) : Int := if isNum l then (if (putAll (0, false) l).2 then 0 else (putAll (0, false) l).1) else 0
def parseE (l : List UInt8) : Int := if isNum l then (if (putAll (0, false) l).2 then 10 else 0) else 20

def sumStep (most : Int) (p : Option Int) (n : Int) : Option Int := p.bind fun s => if mayB n && decide (n.natAbs < most - s) then some (s + n.natAbs + 1) else none
def sumAll (most : Int) (l : List Int) : Option Int := l.foldl (sumStep most) (some 0)
def within0 (most : Int) : Int := min (max most 0) 4611686018427387904
def sumB (l : List Int) (most : Int) : Bool := (sumAll (within0 most) l).isSome
end Go.Proofs.YtpmdcckapddchaaGreat
/- What a call may touch: a set of blocks, and what is new. No condition. -/
namespace Go.Proofs.YtpmdcckapddchaaGreat
open Go.RowKit

structure Keeps (S : Nat → Prop) (w w' : World) : Prop where
 os : w'.os = w.os
 tape : w'.tape = w.tape
 output : w'.output = w.output
 size : w.heap.size ≤ w'.heap.size
 block : ∀ k, k < w.heap.size → ¬ S k → w'.heap[k]? = w.heap[k]?
def more (S : Nat → Prop) (w w' : World) : Nat → Prop := fun k => S k ∨ (w.heap.size ≤ k ∧ k < w'.heap.size)
section
variable {S T : Nat → Prop} {w w1 w2 w' : World}
theorem Keeps.refl (S : Nat → Prop) (w : World) : Keeps S w w := ⟨rfl, rfl, rfl, Nat.le_refl _, fun _ _ _ => rfl⟩
theorem Keeps.trans (h : Keeps S w w1) (k : Keeps T w1 w2) (hT : ∀ j, j < w.heap.size → T j → S j) : Keeps S w w2 :=
 ⟨k.os.trans h.os, k.tape.trans h.tape, k.output.trans h.output, Nat.le_trans h.size k.size, fun j hj hs =>
  (k.block j (Nat.lt_of_lt_of_le hj h.size) (fun ht => hs (hT j hj ht))).trans (h.block j hj hs)⟩
theorem Keeps.trans_same (h : Keeps S w w1) (k : Keeps S w1 w2) : Keeps S w w2 := h.trans k (fun _ _ h => h)
theorem Keeps.mono (h : Keeps S w w') (hS : ∀ j, S j → T j) : Keeps T w w' := ⟨h.os, h.tape, h.output, h.size, fun j hj ht => h.block j hj (fun hs => ht (hS j hs))⟩
theorem Keeps.drew (h : Keeps S w w') : Keeps S w w'.drew := ⟨h.os, h.tape, h.output, h.size, h.block⟩
theorem Keeps.drewN (h : Keeps S w w') (n : Nat) : Keeps S w (w'.drewN n) := ⟨h.os, h.tape, h.output, h.size, h.block⟩
theorem Keeps.alloc (h : Keeps S w w') (o : Obj) : Keeps S w (w'.alloc o) :=
 ⟨h.os, h.tape, h.output, Nat.le_trans h.size (by simp), fun j hj hs => (Below.heap_alloc w' o j (Nat.lt_of_lt_of_le hj h.size)).trans (h.block j hj hs)⟩
theorem Keeps.setCell (h : Keeps S w w') {p : Addr} (hp : S p.block ∨ w.heap.size ≤ p.block) (u : Value) : Keeps S w (w'.setCell p u) :=
 ⟨h.os, h.tape, h.output, by simpa [World.setCell] using h.size, fun j hj hs => (Below.heap_setCell w' p u j (by
  rintro rfl
  rcases hp with hp | hp
  ·exact hs hp
  ·omega)).trans (h.block j hj hs)⟩
theorem Keeps.grown (h : Keeps S w w1) {row : Option Nat} (hg : w1.grownBy w2 row) (hr : ∀ k, row = some k → S k ∨ w.heap.size ≤ k) : Keeps S w w2 :=
 ⟨hg.os.trans h.os, hg.tape.trans h.tape, hg.output.trans h.output, Nat.le_trans h.size hg.size, fun j hj hs =>
  (hg.block j (Nat.lt_of_lt_of_le hj h.size) (fun e => by
   rcases hr j e.symm with h1 | h1
   ·exact hs h1
   ·omega)).trans (h.block j hj hs)⟩
theorem Keeps.of_below (h : Below w.heap.size w w') (S : Nat → Prop) : Keeps S w w' := ⟨h.os, h.tape, h.output, h.size, fun j hj _ => h.block j hj⟩
theorem Keeps.below {B : Nat} (h : Keeps S w w') (hS : ∀ k, S k → B ≤ k) (hB : B ≤ w.heap.size) : Below B w w' :=
 ⟨h.os, h.tape, h.output, h.size, fun k hk => h.block k (by omega) (fun hs => by have := hS k hs; omega)⟩
theorem Keeps.cell (h : Keeps S w w') {b o : Nat} (hb : b < w.heap.size) (hs : ¬ S b) : w'.cell? ⟨b, o, none⟩ = w.cell? ⟨b, o, none⟩ :=
 World.cell?_of_block (w := w) (h.block b hb hs)
end
theorem lt_of_block {w : World} {k : Nat} {o : Obj} (h : w.heap[k]? = some o) : k < w.heap.size := (Array.getElem?_eq_some_iff.1 h).1
end Go.Proofs.YtpmdcckapddchaaGreat
/- What closes a law's row: a call that answers true and leaves all that was there as it was meets the law's statement. No condition. -/
namespace Go.Proofs.YtpmdcckapddchaaGreat
open Go.RowKit Go.ChangeShapes Go.WideShapes Go.ChangeAt Go.WideMaps Go.WideElems

section
variable {H : Type} {enc : TypeId × Value → H} {P : Program}

theorem trodAll_below (hl : laidOutB P = true) {W W' : World} (hb : Below W.heap.size W W') : ∀ {ts : List TypeId} {vs : List Value} {ds : List (DataW H)} {ps : List MemPlace},
  (ts.all fun t => P.readableRec t && decide (t < P.types.size)) = true → DataW.TrodAll enc P W 0 (fun _ => true) true ts vs ds ps → (∀ x ∈ ps, x.block < W.heap.size) →
  DataW.TrodAll enc P W' 0 (fun b => decide (b < W.heap.size)) true ts vs ds ps
 | [], [], [], _, _, h, _ => h
 | t :: ts, v :: vs, d :: ds, ps, hr, h, hlt => by
  obtain ⟨p, q, h1, h2, rfl⟩ := h
  simp only [List.all_cons, Bool.and_eq_true, decide_eq_true_eq] at hr
  exact ⟨p, q, Below.trod hl hr.1.1 hr.1.2 h1 hb (fun x hx => hlt x (by simp [hx])), trodAll_below hl hb hr.2 h2 (fun x hx => hlt x (by simp [hx])), rfl⟩
 | [], _ :: _, _, _, _, h, _ => by simp [DataW.TrodAll] at h
 | [], [], _ :: _, _, _, h, _ => by simp [DataW.TrodAll] at h
 | _ :: _, [], _, _, _, h, _ => by simp [DataW.TrodAll] at h
 | _ :: _, _ :: _, [], _, _, h, _ => by simp [DataW.TrodAll] at h

theorem law_post {f : Func} {s : ChangeSpec} {W W' : World} {args : Array Value} {ds gs : List (DataW H)} {before : List MemPlace} {tb : TypeId}
  (hl : laidOutB P = true) (hr : (f.params.toList.all fun t => P.readableRec t && decide (t < P.types.size)) = true) (hres : f.resultTypes = #[tb]) (htb : P.underlying tb = some .bool) (hsv : s.vars = [])
  (hfn : s.fn H ds = { results := [.lit (.bool true)], args := ds })
  (hW : DataW.Whole enc P f.params.toList s.vars false W args.toList ds gs before) (hb : Below W.heap.size W W') :
  s.post enc P f false true false false W args (.bool true) W' := by
 have hW0 := hW
 have hlt : ∀ p ∈ before, p.block < W.heap.size := fun p hp => hW.lt p hp
 obtain ⟨p, q, hA, hV, rfl, hfz, hnd⟩ := hW
 rw [hsv] at hV
 obtain ⟨rfl, rfl⟩ := trodVars_none hV
 refine ⟨ds, [], p ++ [], [], p, [], hW0, ?_, ?_, ?_, ?_, fun h => by cases h⟩
 ·rw [List.append_nil, hfn, hres]
  exact trodAll_mk1 (shut_bool htb true)
 ·rw [List.append_nil, hfn]
  exact trodAll_below hl hb hr hA (fun x hx => hlt x (by simp [hx]))
 ·rw [List.append_nil, hfn, hsv]
  rfl
 ·exact World.keptBut_mono (fun x hx => ⟨hx, Or.inr (Or.inl (by simpa using hx))⟩) (hb.frame (· ∈ p ++ []))
end
section
variable {H : Type} {enc : TypeId × Value → H} {P : Program}
end
theorem laidOut : laidOutB Tryz.prog = true := by kernel_rfl
theorem own : ownKnob Tryz.prog.godebug = none := by kernel_rfl
end Go.Proofs.YtpmdcckapddchaaGreat
/- Rows of elements of n cells each that read as a list; how an argument that is a slice is opened to one. No condition. -/
namespace Go.Proofs.YtpmdcckapddchaaGreat
open Go.RowKit Go.ChangeShapes Go.WideShapes Go.Deep

def Lasts {α : Type} (R : World → List Value → α → Prop) : Prop := ∀ w w' vs x, Below w.heap.size w w' → R w vs x → R w' vs x
def RowAt {α : Type} (n : Nat) (R : World → List Value → α → Prop) (w : World) (b o : Nat) (xs : List α) : Prop :=
 ∀ i x, xs[i]? = some x → ∃ vs : List Value, vs.length = n ∧ (∀ j u, vs[j]? = some u → w.cell? ⟨b, o + i * n + j, none⟩ = some u) ∧ R w vs x
def Lies {α : Type} (n : Nat) (R : World → List Value → α → Prop) (w : World) (A : Option Addr) (xs : List α) : Prop :=
 xs = [] ∨ ∃ b o, A = some ⟨b, o, none⟩ ∧ b < w.heap.size ∧ RowAt n R w b o xs

section
variable {α : Type} {n : Nat} {R : World → List Value → α → Prop} {w w' : World} {A : Option Addr} {xs : List α}
theorem Lies.on (hR : Lasts R) (h : Lies n R w A xs) (hb : Below w.heap.size w w') : Lies n R w' A xs := by
 rcases h with h | ⟨b, o, hA, hlt, hr⟩
 ·exact .inl h
 ·refine .inr ⟨b, o, hA, Nat.lt_of_lt_of_le hlt hb.size, fun i x hx => ?_⟩
  obtain ⟨vs, h1, h2, h3⟩ := hr i x hx
  exact ⟨vs, h1, fun j u hu => (hb.cell (p := ⟨b, o + i * n + j, none⟩) hlt).trans (h2 j u hu), hR _ _ _ _ hb h3⟩
theorem Lies.at' (h : Lies n R w A xs) {i : Nat} {x : α} (hx : xs[i]? = some x) :
  ∃ b o vs, A = some ⟨b, o, none⟩ ∧ b < w.heap.size ∧ vs.length = n ∧ (∀ j u, vs[j]? = some u → w.cell? ⟨b, o + i * n + j, none⟩ = some u) ∧ R w vs x := by
 rcases h with h | ⟨b, o, hA, hlt, hr⟩
 ·subst h; simp at hx
 ·obtain ⟨vs, h1, h2, h3⟩ := hr i x hx
  exact ⟨b, o, vs, hA, hlt, h1, h2, h3⟩
theorem Lies.take (h : Lies n R w A xs) (k : Nat) : Lies n R w A (xs.take k) := by
 rcases h with h | ⟨b, o, hA, hlt, hr⟩
 ·exact .inl (by rw [h]; simp)
 ·refine .inr ⟨b, o, hA, hlt, fun i x hx => hr i x ?_⟩
  rw [List.getElem?_take] at hx
  split at hx
  ·exact hx
  ·cases hx
theorem Lies.imp {β : Type} {S : World → List Value → β → Prop} {ys : List β} (h : Lies n R w A xs) (hl : ys.length = xs.length) (hi : ∀ (i : Nat) x y vs, xs[i]? = some x → ys[i]? = some y → R w vs x → S w vs y) : Lies n S w A ys := by
 rcases h with h | ⟨b, o, hA, hlt, hr⟩
 ·subst h; exact .inl (List.length_eq_zero_iff.1 hl)
 ·refine .inr ⟨b, o, hA, hlt, fun i y hy => ?_⟩
  have hlt : i < ys.length := (List.getElem?_eq_some_iff.1 hy).1
  have hx := List.getElem?_eq_getElem (show i < xs.length by omega)
  obtain ⟨vs, h1, h2, h3⟩ := hr i _ hx
  exact ⟨vs, h1, h2, hi i _ y vs hx hy h3⟩
end

def One {α : Type} (f : α → Value) (_ : World) (vs : List Value) (x : α) : Prop := vs = [f x]
theorem One.lasts {α : Type} (f : α → Value) : Lasts (One f) := fun _ _ _ _ _ h => h
theorem Lies.one {α : Type} {f : α → Value} {w : World} {A : Option Addr} {xs : List α} (h : Lies 1 (One f) w A xs) : Cells w A (xs.map f) := by
 rcases h with h | ⟨b, o, hA, hlt, hr⟩
 ·subst h; exact .inl rfl
 ·refine .inr ⟨b, o, hA, hlt, fun j u hu => ?_⟩
  have hj : j < xs.length := by have := (List.getElem?_eq_some_iff.1 hu).1; simpa using this
  obtain ⟨vs, h1, h2, h3⟩ := hr j _ (List.getElem?_eq_getElem hj)
  have : vs = [f xs[j]] := h3
  subst this
  have := h2 0 (f xs[j]) rfl
  rw [Nat.mul_one, Nat.add_zero] at this
  rw [this, ← hu]; simp [hj]
theorem lies_list {α : Type} {P : Nat → α → Prop} (n : Nat) (h : ∀ i, i < n → ∃ x, P i x) : ∃ l : List α, l.length = n ∧ ∀ i x, l[i]? = some x → P i x := by
 induction n with
 | zero => exact ⟨[], rfl, fun i x hx => by simp at hx⟩
 | succ n ih =>
  obtain ⟨l, hl, hp⟩ := ih (fun i hi => h i (by omega))
  obtain ⟨x, hx⟩ := h n (by omega)
  refine ⟨l ++ [x], by simp [hl], fun i y hy => ?_⟩
  by_cases hi : i < n
  ·rw [List.getElem?_append_left (by omega)] at hy; exact hp i y hy
  ·rw [List.getElem?_append_right (by omega)] at hy
   by_cases e : i = n
   ·subst e; rw [hl] at hy; simp at hy; subst hy; exact hx
   ·rw [List.getElem?_eq_none (by simp; omega)] at hy; cases hy

section
variable {H : Type} {enc : TypeId × Value → H} {P : Program}
def Fits (P : Program) (t : TypeId) (d : DataW H) : Prop := ∀ n ∈ d.weights P t, n ≤ 140737488351232
theorem fits_all {e : TypeId} : ∀ {ds : List (DataW H)}, (∀ n ∈ DataW.weightsAll P e ds, n ≤ 140737488351232) → ∀ d ∈ ds, Fits P e d
 | [], _ => fun d hd => by cases hd
 | d0 :: r, h => fun d hd => by
  unfold DataW.weightsAll at h
  rcases List.mem_cons.1 hd with e | e
  ·subst e; exact fun n hn => h n (List.mem_append_left _ hn)
  ·exact fits_all (fun n hn => h n (List.mem_append_right _ hn)) d e
theorem fits_each : ∀ {ts : List TypeId} {ds : List (DataW H)}, (∀ n ∈ DataW.weightsEach P ts ds, n ≤ 140737488351232) → ∀ (i : Nat) t d, ts[i]? = some t → ds[i]? = some d → Fits P t d
 | [], _, _ => fun i t d ht _ => by simp at ht
 | _ :: _, [], _ => fun i t d _ hd => by simp at hd
 | t0 :: ts, d0 :: ds, h => fun i t d ht hd => by
  unfold DataW.weightsEach at h
  cases i with
  | zero => simp at ht hd; subst ht; subst hd; exact fun n hn => h n (List.mem_append_left _ hn)
  | succ i => simp at ht hd; exact fits_each (fun n hn => h n (List.mem_append_right _ hn)) i t d ht hd
theorem fits_slice {t e : TypeId} {el sp : List (DataW H)} (ht : P.underlying t = some (.slice e)) (h : Fits P t (.slice el sp)) : (el.length + sp.length) * P.bytesOf e ≤ 140737488351232 ∧ ∀ d ∈ el, Fits P e d := by
 unfold Fits DataW.weights at h
 rw [ht] at h
 exact ⟨h _ (List.mem_cons_self ..), fits_all fun n hn => h n (List.mem_cons_of_mem _ (List.mem_append_left _ hn))⟩
theorem fits_struct {t : TypeId} {fs : Array Field} {ps : List (DataW H)} (ht : P.underlying t = some (.struct fs)) (h : Fits P t (.agg ps)) : ∀ (i : Nat) (f : Field) d, fs[i]? = some f → ps[i]? = some d → Fits P f.type d := by
 unfold Fits DataW.weights at h
 rw [ht] at h
 exact fun i f d hf hd => fits_each h i f.type d (by simp [hf]) hd
theorem fits_array {t e : TypeId} {n : Nat} {ps : List (DataW H)} (ht : P.underlying t = some (.array n e)) (h : Fits P t (.agg ps)) : ∀ d ∈ ps, Fits P e d := by
 unfold Fits DataW.weights at h
 rw [ht] at h
 exact fits_all h

def Opens {α : Type} (H : Type) (enc : TypeId × Value → H) (P : Program) (t : TypeId) (R : World → List Value → α → Prop) (fuel : Nat) : Prop :=
 ∀ (W : World) (cs : List Value) (y : DataW H × List MemPlace), DataW.trod enc P W 0 (fun _ => true) true fuel t cs = some y → Fits P t y.1 → ∃ x, R W cs x
theorem open_int {t : TypeId} {k : IntKind} (ht : P.underlying t = some (.int k)) {W : World} {fuel : Nat} {cs : List Value} {y : DataW H × List MemPlace} (h : DataW.trod enc P W 0 (fun _ => true) true fuel t cs = some y) : ∃ n, cs = [.int k n] ∧ (Lit.int k n).wf = true := by
 obtain ⟨n, h1, _, h2⟩ := DataW.trod_int ht h
 exact ⟨n, h1, h2⟩
theorem open_str {t : TypeId} (ht : P.underlying t = some .string) {W : World} {fuel : Nat} {cs : List Value} {y : DataW H × List MemPlace} (h : DataW.trod enc P W 0 (fun _ => true) true fuel t cs = some y) (hf : Fits P t y.1) : ∃ s : ByteArray, cs = [.string s] ∧ (s.size : Int) ≤ 140737488351232 := by
 obtain ⟨s, h1, h2, _⟩ := DataW.trod_string ht h
 refine ⟨s, h1, ?_⟩
 rw [h2] at hf
 have := hf s.data.toList.length (by unfold DataW.weights; exact List.mem_cons_self ..)
 have e : s.data.toList.length = s.size := by simp
 omega
theorem open_lies {α : Type} {R : World → List Value → α → Prop} {t e : TypeId} {n fuel : Nat} {W : World} {cs : List Value} {y : DataW H × List MemPlace} (ht : P.underlying t = some (.slice e)) (hn : P.cellsOf e = n) (hn0 : 0 < n)
  (hR : ∀ fuel', fuel' < fuel → Opens H enc P e R fuel') (h : DataW.trod enc P W 0 (fun _ => true) true fuel t cs = some y) (hf : Fits P t y.1) :
  ∃ (A : Option Addr) (cap : Nat) (xs : List α), cs = [.slice A xs.length cap] ∧ Lies n R W A xs ∧ xs.length ≤ cap ∧ cap ≤ maxLen ∧ xs.length * P.bytesOf e ≤ 140737488351232 := by
 rcases DataW.trod_slice ht h with ⟨hcs, hx⟩ | ⟨a, len, cap, elems, rest, m, hfu, hcs, hy, _, hl, hm, hlen, hel, _⟩
 ·exact ⟨none, 0, [], hcs, .inl rfl, by simp, by simp, by simp⟩
 ·subst hfu
  rw [hn] at hel
  rw [hy] at hf
  obtain ⟨hb, hfe⟩ := fits_slice ht hf
  obtain ⟨l, hll, hlp⟩ := lies_list (P := fun i (x : α) => ∃ vs, W.cells? 0 (a.add (i * n)) n = some vs ∧ R W vs x) len (fun i hlt => by
   have h1 := hel i hlt
   rw [List.getElem?_eq_getElem (by omega)] at h1
   obtain ⟨vs, hv, ht'⟩ := Option.bind_eq_some_iff.1 h1
   obtain ⟨x, hx⟩ := hR m (by omega) W vs _ ht' (hfe _ (List.mem_map.2 ⟨_, List.getElem_mem (by omega), rfl⟩))
   exact ⟨x, vs, hv, hx⟩)
  have hlb : l.length * P.bytesOf e ≤ 140737488351232 := by
   rw [List.length_map, List.length_map] at hb
   exact Nat.le_trans (Nat.mul_le_mul_right _ (by omega)) hb
  refine ⟨some a, cap, l, by rw [hll]; exact hcs, ?_, by omega, hm, hlb⟩
  by_cases h0 : l = []
  ·exact .inl h0
  ·right
   have hlen0 : 0 < l.length := List.length_pos_iff.2 h0
   obtain ⟨vs0, hv0, _⟩ := hlp 0 _ (List.getElem?_eq_getElem hlen0)
   obtain ⟨_, hvl, hat⟩ := World.cells?_some hv0
   have hc0 := hat 0 hn0
   rw [List.getElem?_eq_getElem (by omega)] at hc0
   have e00 : (a.add (0 * n)).add 0 = a := by unfold Addr.add; simp
   rw [e00] at hc0
   have hsp : a.spot = none := by
    cases hs : a.spot with
    | none => rfl
    | some q =>
     exfalso
     unfold World.cell? at hc0
     split at hc0
     ·rw [hs] at hc0; simp at hc0
     ·cases hc0
   obtain ⟨b, o, sp⟩ := a
   simp only at hsp
   subst hsp
   have hadd : ∀ i j, ((⟨b, o, none⟩ : Addr).add (i * n)).add j = ⟨b, o + i * n + j, none⟩ := fun i j => by
    rw [Go.Deep.add_add]
    unfold Addr.add
    split
    ·simp_all
    ·simp [Nat.add_assoc]
   refine ⟨b, o, rfl, World.block_lt_of_cell? W _ hc0, fun i x hx => ?_⟩
   obtain ⟨vs, hv, hr⟩ := hlp i x hx
   obtain ⟨_, hvl, hat⟩ := World.cells?_some hv
   refine ⟨vs, by omega, fun j u hu => ?_, hr⟩
   have hj : j < n := by have := (List.getElem?_eq_some_iff.1 hu).1; omega
   rw [← hadd, hat j hj]; exact hu

def SliceR {α : Type} (n b : Nat) (R : World → List Value → α → Prop) (W : World) (cs : List Value) (xs : List α) : Prop :=
 ∃ A cap, cs = [.slice A xs.length cap] ∧ Lies n R W A xs ∧ xs.length ≤ cap ∧ cap ≤ maxLen ∧ xs.length * b ≤ 140737488351232
theorem SliceR.lasts {α : Type} {n b : Nat} {R : World → List Value → α → Prop} (hR : Lasts R) : Lasts (SliceR n b R) := fun _ _ _ _ hb ⟨A, cap, h1, h2, h3⟩ => ⟨A, cap, h1, h2.on hR hb, h3⟩
theorem opens_slice {α : Type} {R : World → List Value → α → Prop} {t e : TypeId} {n b fuel : Nat} (ht : P.underlying t = some (.slice e)) (hn : P.cellsOf e = n) (hb : P.bytesOf e = b) (hn0 : 0 < n)
  (hR : ∀ fuel', fuel' < fuel → Opens H enc P e R fuel') : Opens H enc P t (SliceR n b R) fuel := fun W cs y h hf => by
 obtain ⟨A, cap, xs, h1, h2, h3, h4, h5⟩ := open_lies ht hn hn0 hR h hf
 exact ⟨xs, A, cap, h1, h2, h3, h4, by rw [← hb]; exact h5⟩
theorem field_of {α : Type} {R : World → List Value → α → Prop} {t : TypeId} {fs : Array Field} {fuel : Nat} {W : World} {cs : List Value} {y : DataW H × List MemPlace} (ht : P.underlying t = some (.struct fs))
  (h : DataW.trod enc P W 0 (fun _ => true) true fuel t cs = some y) (hf : Fits P t y.1) (i : Nat) (f : Field) (hi : fs[i]? = some f) (hR : ∀ fuel', fuel' < fuel → Opens H enc P f.type R fuel') :
  ∃ x, R W ((cs.drop f.offset).take (P.cellsOf f.type)) x := by
 obtain ⟨ys, n, hn, hy, _, hyl, hg⟩ := DataW.trod_struct ht h
 have h1 := hg i f hi
 have hil : i < fs.size := (Array.getElem?_eq_some_iff.1 hi).1
 rw [List.getElem?_eq_getElem (show i < ys.length by omega)] at h1
 rw [hy] at hf
 exact hR n (by omega) W _ _ h1 (fits_struct ht hf i f _ hi (by rw [List.getElem?_map, List.getElem?_eq_getElem (show i < ys.length by omega)]; rfl))
theorem struct_len {t : TypeId} {fs : Array Field} {fuel : Nat} {W : World} {cs : List Value} {y : DataW H × List MemPlace} (ht : P.underlying t = some (.struct fs))
  (h : DataW.trod enc P W 0 (fun _ => true) true fuel t cs = some y) : cs.length = P.cellsOf t := (DataW.trod_struct ht h).choose_spec.choose_spec.2.2.1
theorem array_of {α : Type} {R : World → List Value → α → Prop} {t e : TypeId} {m fuel : Nat} {W : World} {cs : List Value} {y : DataW H × List MemPlace} (ht : P.underlying t = some (.array m e))
  (h : DataW.trod enc P W 0 (fun _ => true) true fuel t cs = some y) (hf : Fits P t y.1) (n : Nat) (hn : P.cellsOf e = n) (i : Nat) (hi : i < m) (hR : ∀ fuel', fuel' < fuel → Opens H enc P e R fuel') :
  ∃ x, R W ((cs.drop (i * n)).take n) x := by
 subst hn
 obtain ⟨ys, n, hn, hy, _, hyl, hg⟩ := DataW.trod_array ht h
 have h1 := hg i hi
 rw [List.getElem?_eq_getElem (show i < ys.length by omega)] at h1
 rw [hy] at hf
 exact hR n (by omega) W _ _ h1 (fits_array ht hf _ (List.mem_map.2 ⟨_, List.getElem_mem (by omega), rfl⟩))
def IntR (k : IntKind) (_ : World) (vs : List Value) (n : Int) : Prop := vs = [.int k n] ∧ (Lit.int k n).wf = true
theorem IntR.lasts (k : IntKind) : Lasts (IntR k) := fun _ _ _ _ _ h => h
theorem opens_int {t : TypeId} {k : IntKind} (ht : P.underlying t = some (.int k)) (fuel : Nat) : Opens H enc P t (IntR k) fuel := fun _ _ _ h _ => open_int ht h
def StrR (_ : World) (vs : List Value) (s : ByteArray) : Prop := vs = [.string s] ∧ (s.size : Int) ≤ 140737488351232
theorem StrR.lasts : Lasts StrR := fun _ _ _ _ _ h => h
theorem opens_str {t : TypeId} (ht : P.underlying t = some .string) (fuel : Nat) : Opens H enc P t StrR fuel := fun _ _ _ h hf => open_str ht h hf
end
theorem IntR.i64 {W : World} {vs : List Value} {n : Int} (h : IntR .i64 W vs n) : vs = [.int .i64 n] ∧ I64 n := ⟨h.1, bounds_i64 h.2⟩
end Go.Proofs.YtpmdcckapddchaaGreat
/- Expressions, signatures, worlds: plain data, and how they lie in memory. No condition. -/
namespace Go.Proofs.YtpmdcckapddchaaGreat.Dt
open Go.RowKit Go.ChangeShapes Go.WideShapes Go.Deep

inductive Sexp where
 | mk (kind : Int) (text : ByteArray) (l : List Sexp)
def Sexp.kind : Sexp → Int | .mk k _ _ => k
def Sexp.text : Sexp → ByteArray | .mk _ t _ => t
def Sexp.l : Sexp → List Sexp | .mk _ _ l => l
inductive SexpR (w : World) : List Value → Sexp → Prop
 | mk {k : Int} {t : ByteArray} {A : Option Addr} {c : Nat} {l : List Sexp} (b o : Nat) (vs : Nat → List Value) (hk : (Lit.int .i8 k).wf = true) (ht : (t.size : Int) ≤ 140737488351232) (hc : l.length ≤ c) (hcm : c ≤ maxLen) (hlb : l.length * 48 ≤ 140737488351232)
   (hA : l = [] ∨ (A = some ⟨b, o, none⟩ ∧ b < w.heap.size)) (hlen : ∀ i, i < l.length → (vs i).length = 3 ∧ ∀ j u, (vs i)[j]? = some u → w.cell? ⟨b, o + i * 3 + j, none⟩ = some u)
   (hr : ∀ i x, l[i]? = some x → SexpR w (vs i) x) : SexpR w [.int .i8 k, .string t, .slice A l.length c] (.mk k t l)
theorem SexpR.open' {w : World} {cs : List Value} {x : Sexp} (h : SexpR w cs x) :
  ∃ A c, cs = [.int .i8 x.kind, .string x.text, .slice A x.l.length c] ∧ Lies 3 SexpR w A x.l ∧ x.l.length ≤ c ∧ c ≤ maxLen ∧ (x.text.size : Int) ≤ 140737488351232 ∧ x.l.length * 48 ≤ 140737488351232 ∧ (Lit.int .i8 x.kind).wf = true := by
 cases h with
 | @mk k t A c l b o vs hk ht hc hcm hlb hA hlen hr =>
  refine ⟨A, c, rfl, ?_, hc, hcm, ht, hlb, hk⟩
  rcases hA with h0 | ⟨hA, hb⟩
  ·exact .inl h0
  ·exact .inr ⟨b, o, hA, hb, fun i x hx => ⟨vs i, (hlen i (List.getElem?_eq_some_iff.1 hx).1).1, (hlen i (List.getElem?_eq_some_iff.1 hx).1).2, hr i x hx⟩⟩
theorem SexpR.make {w : World} {A : Option Addr} {k : Int} {t : ByteArray} {c : Nat} {l : List Sexp} (hl : Lies 3 SexpR w A l) (hc : l.length ≤ c) (hcm : c ≤ maxLen) (ht : (t.size : Int) ≤ 140737488351232) (hlb : l.length * 48 ≤ 140737488351232) (hk : (Lit.int .i8 k).wf = true) :
  SexpR w [.int .i8 k, .string t, .slice A l.length c] (.mk k t l) := by
 rcases hl with h0 | ⟨b, o, hA, hb, hr⟩
 ·subst h0
  exact .mk 0 0 (fun _ => []) hk ht hc hcm hlb (.inl rfl) (fun i hi => by simp at hi) (fun i x hx => by simp at hx)
 ·have hch : ∀ i, ∃ vs : List Value, i < l.length → (vs.length = 3 ∧ (∀ j u, vs[j]? = some u → w.cell? ⟨b, o + i * 3 + j, none⟩ = some u)) ∧ ∀ x, l[i]? = some x → SexpR w vs x := fun i => by
   by_cases hi : i < l.length
   ·obtain ⟨vs, h1, h2, h3⟩ := hr i _ (List.getElem?_eq_getElem hi)
    exact ⟨vs, fun _ => ⟨⟨h1, h2⟩, fun x hx => by rw [List.getElem?_eq_getElem hi] at hx; simp at hx; subst hx; exact h3⟩⟩
   ·exact ⟨[], fun h => absurd h hi⟩
  refine .mk b o (fun i => (hch i).choose) hk ht hc hcm hlb (.inr ⟨hA, hb⟩) (fun i hi => ((hch i).choose_spec hi).1) (fun i x hx => ((hch i).choose_spec (List.getElem?_eq_some_iff.1 hx).1).2 x hx)
theorem SexpR.lasts : Lasts SexpR := by
 intro w w' vs x hb h
 induction h with
 | mk b o vs hk ht hc hcm hlb hA hlen hr ih =>
  exact .mk b o vs hk ht hc hcm hlb (hA.imp_right fun ⟨h1, h2⟩ => ⟨h1, Nat.lt_of_lt_of_le h2 hb.size⟩) (fun i hi => ⟨(hlen i hi).1, fun j u hu => by
   rcases hA with h0 | ⟨_, h2⟩
   ·subst h0; simp at hi
   ·exact (hb.cell (p := ⟨b, o + i * 3 + j, none⟩) h2).trans ((hlen i hi).2 j u hu)⟩) ih

structure Fun4 where
 name : ByteArray
 len : Int
 a0 : Int
 a1 : Int
 a2 : Int
 res : Int
def FunR (_ : World) (vs : List Value) (f : Fun4) : Prop := vs = [.string f.name, .int .i64 f.len, .int .i64 f.a0, .int .i64 f.a1, .int .i64 f.a2, .int .i64 f.res] ∧ (f.name.size : Int) ≤ 140737488351232 ∧ I64 f.len ∧ I64 f.a0 ∧ I64 f.a1 ∧ I64 f.a2 ∧ I64 f.res
theorem FunR.lasts : Lasts FunR := fun _ _ _ _ _ h => h
structure Param where
 name : ByteArray
 sort : Int
def ParamR (_ : World) (vs : List Value) (p : Param) : Prop := vs = [.string p.name, .int .i64 p.sort] ∧ (p.name.size : Int) ≤ 140737488351232 ∧ I64 p.sort
theorem ParamR.lasts : Lasts ParamR := fun _ _ _ _ _ h => h
structure Macro where
 name : ByteArray
 params : List Param
 res : Int
 body : Sexp
def MacroR (w : World) (vs : List Value) (m : Macro) : Prop := ∃ A c bv, vs = .string m.name :: .slice A m.params.length c :: .int .i64 m.res :: bv ∧ SexpR w bv m.body ∧ Lies 2 ParamR w A m.params ∧ m.params.length ≤ c ∧ c ≤ maxLen ∧ (m.name.size : Int) ≤ 140737488351232 ∧ I64 m.res
theorem MacroR.lasts : Lasts MacroR := fun _ _ _ _ hb ⟨A, c, bv, h1, h2, h3, h4⟩ => ⟨A, c, bv, h1, SexpR.lasts _ _ _ _ hb h2, h3.on ParamR.lasts hb, h4⟩
structure Sig where
 sorts : List ByteArray
 funs : List Fun4
 macros : List Macro
structure SigAt (w : World) (A1 : Option Addr) (c1 : Nat) (A2 : Option Addr) (c2 : Nat) (A3 : Option Addr) (c3 : Nat) (g : Sig) : Prop where
 sorts : Lies 1 StrR w A1 g.sorts
 funs : Lies 6 FunR w A2 g.funs
 macros : Lies 6 MacroR w A3 g.macros
 l1 : g.sorts.length ≤ c1
 l2 : g.funs.length ≤ c2
 l3 : g.macros.length ≤ c3
 m1 : c1 ≤ maxLen
 m2 : c2 ≤ maxLen
 m3 : c3 ≤ maxLen
def SigR (w : World) (vs : List Value) (g : Sig) : Prop := ∃ A1 c1 A2 c2 A3 c3, vs = [.slice A1 g.sorts.length c1, .slice A2 g.funs.length c2, .slice A3 g.macros.length c3] ∧ SigAt w A1 c1 A2 c2 A3 c3 g
theorem SigAt.on {w w' : World} {A1 A2 A3 : Option Addr} {c1 c2 c3 : Nat} {g : Sig} (h : SigAt w A1 c1 A2 c2 A3 c3 g) (hb : Below w.heap.size w w') : SigAt w' A1 c1 A2 c2 A3 c3 g :=
 ⟨h.sorts.on StrR.lasts hb, h.funs.on FunR.lasts hb, h.macros.on MacroR.lasts hb, h.l1, h.l2, h.l3, h.m1, h.m2, h.m3⟩
theorem SigR.lasts : Lasts SigR := fun _ _ _ _ hb ⟨A1, c1, A2, c2, A3, c3, h1, h2⟩ => ⟨A1, c1, A2, c2, A3, c3, h1, h2.on hb⟩

structure Row where
 a0 : Int
 a1 : Int
 a2 : Int
 val : Int
def RowR (_ : World) (vs : List Value) (r : Row) : Prop := vs = [.int .i64 r.a0, .int .i64 r.a1, .int .i64 r.a2, .int .i64 r.val] ∧ I64 r.a0 ∧ I64 r.a1 ∧ I64 r.a2 ∧ I64 r.val
theorem RowR.lasts : Lasts RowR := fun _ _ _ _ _ h => h
structure FunVal where
 rows : List Row
 els : Int
def FunValR (w : World) (vs : List Value) (f : FunVal) : Prop := ∃ A c, vs = [.slice A f.rows.length c, .int .i64 f.els] ∧ Lies 4 RowR w A f.rows ∧ f.rows.length ≤ c ∧ c ≤ maxLen ∧ I64 f.els ∧ f.rows.length * 32 ≤ 140737488351232
theorem FunValR.lasts : Lasts FunValR := fun _ _ _ _ hb ⟨A, c, h1, h2, h3⟩ => ⟨A, c, h1, h2.on RowR.lasts hb, h3⟩
structure Wrld where
 sizes : List Int
 funs : List FunVal
structure WrldAt (w : World) (A1 : Option Addr) (c1 : Nat) (A2 : Option Addr) (c2 : Nat) (x : Wrld) : Prop where
 sizes : Lies 1 (IntR .i64) w A1 x.sizes
 funs : Lies 2 FunValR w A2 x.funs
 l1 : x.sizes.length ≤ c1
 l2 : x.funs.length ≤ c2
 m1 : c1 ≤ maxLen
 m2 : c2 ≤ maxLen
 b1 : x.sizes.length * 8 ≤ 140737488351232
 b2 : x.funs.length * 32 ≤ 140737488351232
def WrldR (w : World) (vs : List Value) (x : Wrld) : Prop := ∃ A1 c1 A2 c2, vs = [.slice A1 x.sizes.length c1, .slice A2 x.funs.length c2] ∧ WrldAt w A1 c1 A2 c2 x
theorem WrldAt.on {w w' : World} {A1 A2 : Option Addr} {c1 c2 : Nat} {x : Wrld} (h : WrldAt w A1 c1 A2 c2 x) (hb : Below w.heap.size w w') : WrldAt w' A1 c1 A2 c2 x :=
 ⟨h.sizes.on (IntR.lasts _) hb, h.funs.on FunValR.lasts hb, h.l1, h.l2, h.m1, h.m2, h.b1, h.b2⟩
theorem WrldR.lasts : Lasts WrldR := fun _ _ _ _ hb ⟨A1, c1, A2, c2, h1, h2⟩ => ⟨A1, c1, A2, c2, h1, h2.on hb⟩
end Go.Proofs.YtpmdcckapddchaaGreat.Dt
/- Expressions in plain words: how deep, whether they may be. No program in sight. -/
namespace Go.Proofs.YtpmdcckapddchaaGreat.Dt
open Go.RowKit

mutual
def Sexp.depth : Sexp → Int
 | .mk k _ l => if k = 3 then wrap64 (Sexp.depthL l + 1) else 0
def Sexp.depthL : List Sexp → Int
 | [] => 0
 | x :: r => max (Sexp.depth x) (Sexp.depthL r)
end
theorem Sexp.depthL_snoc (l : List Sexp) (x : Sexp) : Sexp.depthL (l ++ [x]) = max (Sexp.depthL l) (Sexp.depth x) := by
 induction l with
 | nil => simp [Sexp.depthL]; omega
 | cons y r ih => rw [List.cons_append, Sexp.depthL, ih, Sexp.depthL]; omega
theorem Sexp.depth_I64 : (x : Sexp) → I64 x.depth
 | .mk k _ l => by
  unfold Sexp.depth
  split
  ·exact I64_wrap _
  ·exact ⟨by omega, by omega⟩
theorem Sexp.depthL_I64 : (l : List Sexp) → 0 ≤ Sexp.depthL l ∧ Sexp.depthL l ≤ 9223372036854775807
 | [] => by simp [Sexp.depthL]
 | x :: r => by
  have h1 := Sexp.depth_I64 x
  have h2 := Sexp.depthL_I64 r
  obtain ⟨a, b⟩ := h1
  unfold Sexp.depthL
  omega
theorem Sexp.depth_eq (x : Sexp) : x.depth = if x.kind = 3 then wrap64 (Sexp.depthL x.l + 1) else 0 := by cases x; rfl

def keyB (l : List UInt8) : Bool := (l.all fun c => Lx.signI c.toNat) && !l.isEmpty && decide (l.length ≤ 100)
def numB (l : List UInt8) : Bool := isNum l && decide (l.length ≤ 100)
mutual
def Sexp.stands : Sexp → Bool
 | .mk k t l =>
  if k = 0 then l.isEmpty && Lx.mayB (Lx.bs t)
  else if k = 1 then l.isEmpty && numB (Lx.bs t)
  else if k = 2 then l.isEmpty && keyB (Lx.bs t)
  else if k = 3 then (Lx.bs t).isEmpty && Sexp.standsL l
  else false
def Sexp.standsL : List Sexp → Bool
 | [] => true
 | x :: r => Sexp.stands x && Sexp.standsL r
end
theorem Sexp.stands_eq (x : Sexp) : x.stands = if x.kind = 0 then x.l.isEmpty && Lx.mayB (Lx.bs x.text) else if x.kind = 1 then x.l.isEmpty && numB (Lx.bs x.text) else if x.kind = 2 then x.l.isEmpty && keyB (Lx.bs x.text) else if x.kind = 3 then (Lx.bs x.text).isEmpty && Sexp.standsL x.l else false := by
 cases x; unfold Sexp.stands; rfl
theorem Sexp.standsL_all (l : List Sexp) : Sexp.standsL l = l.all Sexp.stands := by
 induction l with
 | nil => rfl
 | cons x r ih => rw [Sexp.standsL, ih]; rfl
def Sexp.may (x : Sexp) : Bool := decide (x.depth ≤ 60) && x.stands
theorem Sexp.mem_lt {x y : Sexp} (h : y ∈ x.l) : SizeOf.sizeOf y < SizeOf.sizeOf x := by
 cases x with
 | mk k t l =>
  have := List.sizeOf_lt_of_mem h
  simp only [Sexp.l] at this
  simp only [Sexp.mk.sizeOf_spec]
  omega
end Go.Proofs.YtpmdcckapddchaaGreat.Dt
