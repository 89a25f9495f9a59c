/- Plain laws of layer 1: numerals and numbers, sums. No program in sight. -/
import Derived.Test.YtdgbgchcomikoaaDoorNumWalks4
namespace Go.Proofs.YtdgbgchcomikoaaDoor
open Go.RowKit

/-- a sum in one word -/
def total (l : List Int) : Int := (l.map fun x => (x.natAbs : Int) + 1).sum
theorem total_nonneg (l : List Int) : (l.length : Int) ≤ total l := by
  induction l with
  | nil => simp [total]
  | cons x l ih => simp only [total, List.map_cons, List.sum_cons, List.length_cons] at *; omega
theorem total_cons (x : Int) (l : List Int) : total (x :: l) = (x.natAbs : Int) + 1 + total l := by simp [total]
theorem total_append (l r : List Int) : total (l ++ r) = total l + total r := by simp [total]
theorem sum_closed (most : Int) (l : List Int) : ∀ a : Int, a ≤ most → l.foldl (sumStep most) (some a) = if l.all mayB = true ∧ a + total l ≤ most then some (a + total l) else none := by
  induction l with
  | nil => intro a h; simp [total]; exact h
  | cons x l ih =>
    intro a h
    rw [List.foldl_cons, total_cons, List.all_cons]
    have hn := total_nonneg l
    by_cases hc : (mayB x && decide ((x.natAbs : Int) < most - a)) = true
    · have e : sumStep most (some a) x = some (a + x.natAbs + 1) := by simp only [sumStep, Option.bind_some]; rw [if_pos hc]
      simp at hc
      rw [e, ih _ (by omega), hc.1, Bool.true_and]
      by_cases h2 : l.all mayB = true ∧ a + x.natAbs + 1 + total l ≤ most
      · rw [if_pos h2, if_pos ⟨h2.1, by omega⟩]; congr 1; omega
      · rw [if_neg h2, if_neg (fun h3 => h2 ⟨h3.1, by omega⟩)]
    · have e : sumStep most (some a) x = none := by simp only [sumStep, Option.bind_some]; rw [if_neg hc]
      rw [e, sumStep_none, if_neg]
      intro h3
      simp only [Bool.and_eq_true] at h3
      apply hc
      rw [h3.1.1, Bool.true_and, decide_eq_true_eq]; omega
theorem sumAll_closed {most : Int} (h : 0 ≤ most) (l : List Int) : sumAll most l = if l.all mayB = true ∧ total l ≤ most then some (total l) else none := by
  have := sum_closed most l 0 h
  simpa [sumAll] using this
theorem within0_nonneg (most : Int) : 0 ≤ within0 most := by unfold within0; omega
def sumOk (l : List Int) (most : Int) : Bool := l.all mayB && decide (total l ≤ within0 most)
theorem sum_yes {l : List Int} {most : Int} (h : sumOk l most = true) : sumV l most = total l ∧ sumB l most = true := by
  simp only [sumOk, Bool.and_eq_true, decide_eq_true_eq] at h
  have e := sumAll_closed (within0_nonneg most) l
  rw [if_pos h] at e
  simp [sumV, sumB, e]
theorem sum_no {l : List Int} {most : Int} (h : sumOk l most = false) : sumV l most = 0 ∧ sumB l most = false := by
  have e := sumAll_closed (within0_nonneg most) l
  rw [if_neg (fun h2 => by simp [sumOk, h2.1, h2.2] at h)] at e
  simp [sumV, sumB, e]
/-- signs and order make no difference -/
theorem mayB_neg (x : Int) : mayB (-x) = mayB x := by rw [Bool.eq_iff_iff, mayB_iff, mayB_iff]; omega
theorem total_turned (l : List Int) : total (l.map fun x => -x).reverse = total l := by
  induction l with
  | nil => rfl
  | cons x l ih => rw [List.map_cons, List.reverse_cons, total_append, ih, total_cons]; simp [total]; omega
theorem all_turned (l : List Int) : (l.map fun x => -x).reverse.all mayB = l.all mayB := by
  rw [List.all_reverse, List.all_map]
  congr 1; funext x; exact mayB_neg x
theorem sumOk_turned (l : List Int) (most : Int) : sumOk (l.map fun x => -x).reverse most = sumOk l most := by
  unfold sumOk; rw [total_turned, all_turned]
theorem sum_turned (l : List Int) (most : Int) : sumV (l.map fun x => -x).reverse most = sumV l most ∧ sumB (l.map fun x => -x).reverse most = sumB l most := by
  cases h : sumOk l most with
  | true =>
    have h1 := sum_yes h
    have h2 := sum_yes ((sumOk_turned l most).trans h)
    rw [h1.1, h1.2, h2.1, h2.2, total_turned]; exact ⟨rfl, rfl⟩
  | false =>
    have h1 := sum_no h
    have h2 := sum_no ((sumOk_turned l most).trans h)
    rw [h1.1, h1.2, h2.1, h2.2]; exact ⟨rfl, rfl⟩
theorem sumOk_part {l : List Int} {most : Int} (k : Nat) (h : sumOk l most = true) : sumOk (l.take k) most = true ∧ total (l.take k) ≤ total l := by
  have e : total l = total (l.take k) + total (l.drop k) := by rw [← total_append, List.take_append_drop]
  have hn := total_nonneg (l.drop k)
  simp only [sumOk, Bool.and_eq_true, decide_eq_true_eq, List.all_eq_true] at *
  exact ⟨⟨fun x hx => h.1 x (List.mem_of_mem_take hx), by omega⟩, by omega⟩

/-- numerals and numbers -/
theorem isNum_iff {l : List UInt8} : isNum l = true ↔ l ≠ [] ∧ (1 < l.length → l.getD 0 0 ≠ 48) ∧ (∀ c ∈ l, isDig c = true) := by
  unfold isNum
  cases l with
  | nil => simp
  | cons a l =>
    simp only [List.isEmpty_cons, Bool.not_false, Bool.true_and, Bool.and_eq_true, List.all_eq_true, Bool.not_eq_true', Bool.and_eq_false_iff, decide_eq_false_iff_not, beq_eq_false_iff_ne, ne_eq, reduceCtorEq, not_false_eq_true, true_and]
    constructor
    · rintro ⟨h1, h2⟩; exact ⟨fun h => by rcases h1 with h1 | h1; exact absurd h h1; exact h1, h2⟩
    · rintro ⟨h1, h2⟩
      refine ⟨?_, h2⟩
      by_cases h : 1 < (a :: l).length
      · exact .inr (h1 h)
      · exact .inl h
theorem putAll_keep {l : List UInt8} {p : Int × Bool} (h : (putAll p l).2 = false) : p.2 = false := by
  cases hp : p.2 with
  | false => rfl
  | true =>
    exfalso
    have : ∀ (l : List UInt8) (p : Int × Bool), p.2 = true → (putAll p l).2 = true := by
      intro l
      induction l with
      | nil => intro p h; exact h
      | cons c l ih =>
        intro p h
        have e : putAll p (c :: l) = putAll (putN p ((c.toNat : Int) % 16)) l := rfl
        rw [e]; apply ih; unfold putN; split <;> simp [h]
    rw [this l p hp] at h; cases h
theorem dig16 {c : UInt8} (h : isDig c = true) : (c.toNat : Int) % 16 = (c.toNat : Int) - 48 := by
  have := isDig_iff.1 h; omega
theorem byte_of_dig {c : UInt8} (h : isDig c = true) {d : Nat} (hd : (c.toNat : Int) - 48 = d) : c = UInt8.ofNat (48 + d) := by
  have := isDig_iff.1 h
  apply UInt8.toNat_inj.1
  rw [UInt8.toNat_ofNat', Nat.mod_eq_of_lt (by omega)]; omega

/-- the number that was put together, where none was too great: its digits are these, and it is at least 1 where the first digit is none -/
theorem digits_of_put (l : List UInt8) (hn : isNum l = true) (n : Int) (h : putAll (0, false) l = (n, false)) :
    0 ≤ n ∧ n ≤ 4611686018427387904 ∧ Lib.decDigits n.toNat = l ∧ (l.getD 0 0 ≠ 48 → 1 ≤ n) := by
  induction hk : l.length generalizing l n with
  | zero =>
    have := List.length_eq_zero_iff.1 hk; subst this
    exact absurd hn (by decide)
  | succ k ih =>
    obtain ⟨hne, hz, hd⟩ := isNum_iff.1 hn
    have hle := putAll_le l (List.all_eq_true.2 hd)
    rw [h] at hle
    refine ⟨hle.1, hle.2, ?_⟩
    obtain ⟨l', c, rfl⟩ : ∃ l' c, l = l' ++ [c] := ⟨l.dropLast, l.getLast hne, (List.dropLast_concat_getLast hne).symm⟩
    have hc : isDig c = true := hd c (by simp)
    have hc9 := isDig_iff.1 hc
    rw [putAll_snoc, dig16 hc] at h
    by_cases h0 : l' = []
    · subst h0
      have e : putAll (0, false) [] = (0, false) := rfl
      rw [e] at h
      unfold putN at h
      rw [if_neg (by simp; omega)] at h
      simp only [Prod.mk.injEq] at h
      have hnn : n = ((n.toNat : Nat) : Int) := by omega
      refine ⟨?_, ?_⟩
      · rw [Lib.decDigits_one (by omega)]
        simp only [List.nil_append, List.cons.injEq, and_true]
        exact (byte_of_dig hc (by omega)).symm
      · intro h48
        simp at h48
        have : (c.toNat : Int) ≠ 48 := fun e2 => h48 (by
          have := byte_of_dig hc (d := 0) (by omega)
          simpa using this)
        omega
    · have hl2 : 1 < (l' ++ [c]).length := by
        have : 0 < l'.length := List.length_pos_iff.2 h0
        simp; omega
      have h48 := hz hl2
      have hg : (l' ++ [c]).getD 0 0 = l'.getD 0 0 := by
        cases l' with
        | nil => exact absurd rfl h0
        | cons a r => rfl
      rw [hg] at h48
      have hn' : isNum l' = true := isNum_iff.2 ⟨h0, fun _ => h48, fun x hx => hd x (by simp [hx])⟩
      obtain ⟨m, o, hp⟩ : ∃ m o, putAll (0, false) l' = (m, o) := ⟨_, _, rfl⟩
      rw [hp] at h
      have ho : o = false := by
        unfold putN at h
        split at h <;> simp only [Prod.mk.injEq] at h
        · exact absurd h.2 (by decide)
        · exact h.2
      subst ho
      obtain ⟨m0, m1, hdg, hm1⟩ := ih l' hn' m hp (by simp at hk; omega)
      have hm := hm1 h48
      unfold putN at h
      split at h
      · simp only [Prod.mk.injEq] at h; exact absurd h.2 (by decide)
      · simp only [Prod.mk.injEq] at h
        have e10 : n.toNat / 10 = m.toNat := by omega
        refine ⟨?_, fun _ => by omega⟩
        rw [Lib.decDigits, dif_neg (by omega), e10, hdg]
        congr 1
        simp only [List.cons.injEq, and_true]
        exact (byte_of_dig hc (by omega)).symm

theorem ofNat_dig {d : Nat} (h : d < 10) : isDig (UInt8.ofNat (48 + d)) = true ∧ ((UInt8.ofNat (48 + d)).toNat : Int) = 48 + d := by
  have e : (UInt8.ofNat (48 + d)).toNat = 48 + d := by rw [UInt8.toNat_ofNat', Nat.mod_eq_of_lt (by omega)]
  refine ⟨isDig_iff.2 (by rw [e]; omega), by rw [e]; omega⟩
/-- a number's digits are a numeral, whose number it is -/
theorem put_digits (a : Nat) (h : (a : Int) ≤ 4611686018427387904) :
    isNum (Lib.decDigits a) = true ∧ putAll (0, false) (Lib.decDigits a) = ((a : Int), false) ∧ (1 ≤ a → (Lib.decDigits a).getD 0 0 ≠ 48) := by
  induction a using Nat.strongRecOn with
  | _ a ih =>
    by_cases h10 : a < 10
    · have hd := ofNat_dig h10
      rw [Lib.decDigits_one h10]
      refine ⟨isNum_iff.2 ⟨by simp, fun h => by simp at h, fun c hc => by simp only [List.mem_singleton] at hc; rw [hc]; exact hd.1⟩, ?_, ?_⟩
      · have e : putAll (0, false) [UInt8.ofNat (48 + a)] = putN (0, false) (((UInt8.ofNat (48 + a)).toNat : Int) % 16) := rfl
        rw [e, dig16 hd.1, hd.2]
        unfold putN
        rw [if_neg (by simp; omega)]
        simp; omega
      · intro h1 h48
        have : ((UInt8.ofNat (48 + a)).toNat : Int) = 48 := by
          have e2 : UInt8.ofNat (48 + a) = 48 := by simpa using h48
          rw [e2]; rfl
        rw [hd.2] at this; omega
    · obtain ⟨i1, i2, i3⟩ := ih (a / 10) (by omega) (by omega)
      have hd := ofNat_dig (d := a % 10) (by omega)
      have e : Lib.decDigits a = Lib.decDigits (a / 10) ++ [UInt8.ofNat (48 + a % 10)] := by rw [Lib.decDigits, dif_neg h10]
      obtain ⟨n1, n2, n3⟩ := isNum_iff.1 i1
      have hg : (Lib.decDigits a).getD 0 0 = (Lib.decDigits (a / 10)).getD 0 0 := by
        rw [e]
        cases hx : Lib.decDigits (a / 10) with
        | nil => exact absurd hx n1
        | cons x r => rfl
      have i4 := i3 (by omega)
      refine ⟨isNum_iff.2 ⟨by rw [e]; simp, fun _ => by rw [hg]; exact i4, fun c hc => ?_⟩, ?_, fun _ => by rw [hg]; exact i4⟩
      · rw [e] at hc
        rcases List.mem_append.1 hc with h1 | h1
        · exact n3 c h1
        · simp only [List.mem_singleton] at h1; rw [h1]; exact hd.1
      · rw [e, putAll_snoc, i2, dig16 hd.1, hd.2]
        unfold putN
        rw [if_neg (by simp; omega)]
        simp only [Prod.mk.injEq, and_true]
        omega

/-- what a row of digits counts -/
def val : List UInt8 → Nat
  | [] => 0
  | c :: l => (c.toNat - 48) * 10 ^ l.length + val l
theorem val_snoc (l : List UInt8) (c : UInt8) : val (l ++ [c]) = val l * 10 + (c.toNat - 48) := by
  induction l with
  | nil => simp [val]
  | cons a l ih =>
    simp only [List.cons_append, val, ih, List.length_append, List.length_cons, List.length_nil, Nat.pow_succ]
    rw [Nat.add_mul, Nat.mul_assoc]; omega
theorem val_digits (n : Nat) : val (Lib.decDigits n) = n := by
  induction n using Nat.strongRecOn with
  | _ n ih =>
    by_cases h : n < 10
    · have := (ofNat_dig h).2
      rw [Lib.decDigits_one h]; simp only [val, List.length_nil, Nat.pow_zero]; omega
    · have := (ofNat_dig (d := n % 10) (by omega)).2
      rw [Lib.decDigits, dif_neg h, val_snoc, ih _ (by omega)]; omega
theorem val_lt : ∀ l : List UInt8, (∀ c ∈ l, isDig c = true) → val l < 10 ^ l.length
  | [], _ => by simp [val]
  | c :: l, h => by
    have h1 := val_lt l (fun x hx => h x (by simp [hx]))
    have h2 := isDig_iff.1 (h c (by simp))
    have h3 : (c.toNat - 48) * 10 ^ l.length ≤ 9 * 10 ^ l.length := Nat.mul_le_mul_right _ (by omega)
    simp only [val, List.length_cons, Nat.pow_succ]; omega
theorem val_less : ∀ (l r : List UInt8), (∀ c ∈ l, isDig c = true) → (∀ c ∈ r, isDig c = true) → l.length = r.length → Op.bytesLess l r = decide (val l < val r)
  | [], [], _, _, _ => by simp [Op.bytesLess, val]
  | [], _ :: _, _, _, h => by simp at h
  | _ :: _, [], _, _, h => by simp at h
  | a :: l, b :: r, hl, hr, h => by
    have h1 := val_lt l (fun x hx => hl x (by simp [hx]))
    have h2 := val_lt r (fun x hx => hr x (by simp [hx]))
    have ha := isDig_iff.1 (hl a (by simp))
    have hb := isDig_iff.1 (hr b (by simp))
    have hlen : l.length = r.length := by simpa using h
    have ih := val_less l r (fun x hx => hl x (by simp [hx])) (fun x hx => hr x (by simp [hx])) hlen
    have e : Op.bytesLess (a :: l) (b :: r) = (decide (a < b) || (a == b && Op.bytesLess l r)) := rfl
    have x1 : val (a :: l) = (a.toNat - 48) * 10 ^ r.length + val l := by rw [← hlen]; rfl
    have x2 : val (b :: r) = (b.toNat - 48) * 10 ^ r.length + val r := rfl
    rw [hlen] at h1
    rw [e, ih, x1, x2]
    generalize 10 ^ r.length = p at *
    rcases Nat.lt_trichotomy a.toNat b.toNat with hc | hc | hc
    · have hab : a < b := UInt8.lt_iff_toNat_lt.2 hc
      have hm : (a.toNat - 48 + 1) * p ≤ (b.toNat - 48) * p := Nat.mul_le_mul_right _ (by omega)
      rw [Nat.add_mul] at hm
      rw [decide_eq_true hab, Bool.true_or, decide_eq_true]; omega
    · have hab : a = b := UInt8.toNat_inj.1 hc
      subst hab
      have hn : ¬ a < a := fun h => by have := UInt8.lt_iff_toNat_lt.1 h; omega
      rw [decide_eq_false hn, Bool.false_or, beq_self_eq_true, Bool.true_and]
      rw [Bool.eq_iff_iff, decide_eq_true_iff, decide_eq_true_iff]; omega
    · have hab : ¬ a < b := fun h => by have := UInt8.lt_iff_toNat_lt.1 h; omega
      have hne : (a == b) = false := by rw [beq_eq_false_iff_ne]; intro h; rw [h] at hc; omega
      have hm : (b.toNat - 48 + 1) * p ≤ (a.toNat - 48) * p := Nat.mul_le_mul_right _ (by omega)
      rw [Nat.add_mul] at hm
      rw [decide_eq_false hab, Bool.false_or, hne, Bool.false_and, eq_comm, decide_eq_false_iff_not]; omega
theorem pow_le_nDigits (u : Nat) (h1 : 1 ≤ u) : 10 ^ (Lib.nDigits u - 1) ≤ u := by
  induction u using Nat.strongRecOn with
  | _ u ih =>
    by_cases h : u < 10
    · rw [Lib.nDigits_small h]; simpa using h1
    · have := ih (u / 10) (by omega) (by omega)
      have hp := Lib.nDigits_pos (u / 10)
      rw [Lib.nDigits_big h, Nat.add_sub_cancel]
      obtain ⟨k, hk⟩ : ∃ k, Lib.nDigits (u / 10) = k + 1 := ⟨_, (Nat.sub_add_cancel hp).symm⟩
      rw [hk] at this ⊢
      rw [Nat.add_sub_cancel] at this
      rw [Nat.pow_succ]; omega
theorem nDigits_mono {n m : Nat} (h : n ≤ m) : Lib.nDigits n ≤ Lib.nDigits m := by
  rcases Nat.lt_or_ge (Lib.nDigits m) (Lib.nDigits n) with hlt | hge
  · exfalso
    have hm := Lib.nDigits_pos m
    have h1 := Lib.lt_pow_nDigits m
    have hn : 1 ≤ n := by
      rcases Nat.eq_zero_or_pos n with h0 | h0
      · subst h0; rw [Lib.nDigits_small (u := 0) (by omega)] at hlt; omega
      · exact h0
    have h2 := pow_le_nDigits n hn
    have h3 : 10 ^ Lib.nDigits m ≤ 10 ^ (Lib.nDigits n - 1) := Nat.pow_le_pow_right (by omega) (by omega)
    omega
  · exact hge
/-- of two numerals the longer one, or of alike ones the later one, is the greater number -/
theorem longer_less (n m : Nat) (hn : (n : Int) ≤ 4611686018427387904) (hm : (m : Int) ≤ 4611686018427387904) :
    (decide ((Lib.decDigits n).length < (Lib.decDigits m).length) || (decide ((Lib.decDigits n).length = (Lib.decDigits m).length) && Op.bytesLess (Lib.decDigits n) (Lib.decDigits m))) = decide (n < m) := by
  have h1 := (isNum_iff.1 (put_digits n hn).1).2.2
  have h2 := (isNum_iff.1 (put_digits m hm).1).2.2
  have e1 := Lib.decDigits_length n
  have e2 := Lib.decDigits_length m
  rcases Nat.lt_trichotomy (Lib.decDigits n).length (Lib.decDigits m).length with hc | hc | hc
  · rw [decide_eq_true hc, Bool.true_or, eq_comm, decide_eq_true_iff]
    rcases Nat.lt_or_ge n m with h | h
    · exact h
    · have := nDigits_mono h; omega
  · rw [decide_eq_false (by omega : ¬ _ < _), Bool.false_or, decide_eq_true hc, Bool.true_and, val_less _ _ h1 h2 hc, val_digits, val_digits]
  · rw [decide_eq_false (by omega : ¬ _ < _), Bool.false_or, decide_eq_false (by omega : ¬ _ = _), Bool.false_and, eq_comm, decide_eq_false_iff_not]
    intro h
    have := nDigits_mono (Nat.le_of_lt h); omega

theorem parse_split (l : List UInt8) : (parseE l = 20 ∧ parseV l = 0) ∨ (parseE l = 10 ∧ parseV l = 0) ∨
    (parseE l = 0 ∧ isNum l = true ∧ 0 ≤ parseV l ∧ parseV l ≤ 4611686018427387904 ∧ Lib.decDigits (parseV l).toNat = l) := by
  cases hn : isNum l with
  | false => left; simp [parseE, parseV, hn]
  | true =>
    right
    cases ho : (putAll (0, false) l).2 with
    | true => left; simp [parseE, parseV, hn, ho]
    | false =>
      right
      have hp := parse_fits hn ho
      have := digits_of_put l hn (putAll (0, false) l).1 (Prod.ext rfl ho)
      rw [hp.1]
      exact ⟨hp.2, rfl, this.1, this.2.1, this.2.2.1⟩
theorem parseV_I64 (l : List UInt8) : I64 (parseV l) := by
  unfold I64
  rcases parse_split l with h | h | h <;> omega
/-- P1.4: what is parsed is written so -/
theorem text_of_parse {l : List UInt8} (h : parseE l = 0) : 0 ≤ parseV l ∧ textE (parseV l) = 0 ∧ textL (parseV l) = l := by
  rcases parse_split l with h1 | h1 | ⟨_, _, h0, h1, h2⟩
  · omega
  · omega
  · have hm : mayB (parseV l) = true := by rw [mayB_iff]; omega
    have ht := text_pos hm (by omega)
    refine ⟨h0, ht.2, ?_⟩
    rw [ht.1]
    have : parseV l = ((parseV l).toNat : Int) := by omega
    rw [this, Lib.itoa_nonneg]; exact h2
/-- P1.4: what is written is parsed so -/
theorem parse_of_text {a : Int} (hm : mayB a = true) (h0 : 0 ≤ a) : parseV (textL a) = a ∧ parseE (textL a) = 0 := by
  have hb := mayB_iff.1 hm
  obtain ⟨k, rfl⟩ := Int.eq_ofNat_of_zero_le h0
  have ht := text_pos hm (by omega)
  rw [ht.1, Lib.itoa_nonneg]
  obtain ⟨h1, h2, _⟩ := put_digits k hb.2
  have h3 := parse_fits h1 (by rw [h2])
  rw [h3.1, h3.2, h2]; exact ⟨rfl, rfl⟩
end Go.Proofs.YtdgbgchcomikoaaDoor
