/- A heap in memory and what it says: the contracts of the heap's functions, in the words of HeapAb. -/
import Derived.Test.YtdelfgilcfoaoaaHeapHalve
import Derived.Test.YtdelfgilcfoaoaaHeapPop2
import Derived.Test.YtdelfgilcfoaoaaHeapBump
import Derived.Test.YtdelfgilcfoaoaaHeapPut2
import Derived.Test.YtdelfgilcfoaoaaHeapNew
import Derived.Test.YtdelfgilcfoaoaaHeapAb
namespace Go.Proofs.Ytdelfgilcfoaoaa.Hp
open Go.RowKit

def abOf (s : St) : Ab := { n := s.n, act := s.act, inn := fun i => decide (0 ≤ s.pos i) }
theorem Ab.Eq.put {a b : Ab} (e : Ab.Eq a b) (i : Nat) : Ab.Eq (a.put i) (b.put i) :=
  ⟨e.n, e.act, fun j hj => by simp only [Ab.put, upd]; split; rfl; exact e.inn j hj⟩
theorem Ab.Eq.bump {a b : Ab} (e : Ab.Eq a b) (i : Nat) (hi : i < a.n) (d : Int) : Ab.Eq (a.bump i d) (b.bump i d) :=
  ⟨e.n, fun j hj => by simp only [Ab.bump, upd]; split; rw [e.act i hi]; exact e.act j hj, e.inn⟩
theorem Ab.Eq.halve {a b : Ab} (e : Ab.Eq a b) : Ab.Eq a.halve b.halve := ⟨e.n, fun j hj => by show b.act j / 2 = a.act j / 2; rw [e.act j hj], e.inn⟩
theorem Like.eq {s s' : St} (h : Like s s') : Ab.Eq (abOf s) (abOf s') :=
  ⟨h.n, fun i _ => by show s'.act i = s.act i; rw [h.act], fun i hi => by show decide (0 ≤ s'.pos i) = decide (0 ≤ s.pos i); rw [decide_eq_decide]; exact h.has i hi⟩
theorem abOf_put (s : St) (i : Nat) : Ab.Eq ((abOf s).put i) (abOf (putSt s i)) :=
  ⟨rfl, fun _ _ => rfl, fun j _ => by
    show decide (0 ≤ upd s.pos i (s.m : Int) j) = upd (fun i => decide (0 ≤ s.pos i)) i true j
    by_cases e : j = i
    · subst e; rw [upd_self, upd_self, decide_eq_true (by omega)]
    · rw [upd_other _ _ e, upd_other _ _ e]⟩
theorem abOf_bump (s : St) (i : Nat) (d : Int) : Ab.Eq ((abOf s).bump i d) (abOf (bumpSt s i d)) := ⟨rfl, fun _ _ => rfl, fun _ _ => rfl⟩
theorem abOf_halve (s : St) : Ab.Eq (abOf s).halve (abOf (halfSt s)) := ⟨rfl, fun _ _ => rfl, fun _ _ => rfl⟩
theorem abOf_pop {s : St} (hf : Fit s) (hm : 0 < s.m) : Ab.Eq ((abOf s).out (s.row 0)) (abOf (popSt s)) :=
  ⟨rfl, fun _ _ => rfl, fun j hj => by
    show decide (0 ≤ upd (Hp.swap s 0 (s.m - 1)).pos (s.row 0) (-1) j) = upd (fun i => decide (0 ≤ s.pos i)) (s.row 0) false j
    by_cases e : j = s.row 0
    · subst e; rw [upd_self, upd_self]; rfl
    · rw [upd_other _ _ e, upd_other _ _ e, decide_eq_decide]
      exact (Like.swap hf hm (show s.m - 1 < s.m by omega)).has j hj⟩
theorem abOf_first {s : St} (hf : Fit s) (ho : Ord s) (hm : 0 < s.m) : First (abOf s) (s.row 0) := by
  refine ⟨hf.node 0 hm, decide_eq_true (by rw [hf.back 0 hm]; omega), fun j hj hin hne => ?_⟩
  have h0 : 0 ≤ s.pos j := of_decide_eq_true hin
  rcases hf.place j hj with h1 | ⟨_, h2, h3⟩
  · omega
  · have := ho.first (s.pos j).toNat (by
      rcases Nat.eq_zero_or_pos (s.pos j).toNat with e | e
      · rw [e] at h3; exact absurd h3.symm hne
      · exact e) (by omega)
    rw [h3] at this; exact this
theorem abOf_empty {s : St} (hf : Fit s) (hm : s.m = 0) : Empty (abOf s) := fun i hi => decide_eq_false (by rcases hf.place i hi with h1 | ⟨_, h2, _⟩ <;> omega)
theorem abOf_len {s : St} (hf : Fit s) : (abOf s).len = s.m := hf.many.symm

/-- the heap at H says a -/
def At (O : Nat → Prop) (w : World) (H : Nat) (a : Ab) : Prop := ∃ ba bt rv s, Mem O w H ba bt rv s ∧ O ba ∧ Fit s ∧ Ord s ∧ Ab.Eq (abOf s) a
section
variable {O : Nat → Prop} {w w' : World} {H : Nat} {a : Ab}
theorem At.mono {O' : Nat → Prop} (h : At O w H a) (hO : ∀ k, O k → O' k) : At O' w H a := by
  obtain ⟨ba, bt, rv, s, h1, h2, h3⟩ := h
  exact ⟨ba, bt, rv, s, h1.mono hO, hO _ h2, h3⟩
theorem At.keep {S : Nat → Prop} (h : At O w H a) (hk : Keeps S w w') (hS : ∀ k, O k → ¬ S k) : At O w' H a := by
  obtain ⟨ba, bt, rv, s, h1, h2, h3⟩ := h
  exact ⟨ba, bt, rv, s, h1.keep hk hS (hS _ h2), h2, h3⟩
theorem At.below (h : At O w H a) (hb : Below w.heap.size w w') : At O w' H a := h.keep (Keeps.of_below hb (fun _ => False)) (fun _ _ => id)
theorem At.heap (h : At O w H a) (e : w'.heap = w.heap) : At O w' H a := by
  obtain ⟨ba, bt, rv, s, h1, h2, h3⟩ := h
  exact ⟨ba, bt, rv, s, h1.of_heap e, h2, h3⟩
theorem At.eq {b : Ab} (h : At O w H a) (e : Ab.Eq a b) : At O w H b := by
  obtain ⟨ba, bt, rv, s, h1, h2, h3, h4, h5⟩ := h
  exact ⟨ba, bt, rv, s, h1, h2, h3, h4, h5.trans e⟩
theorem At.small (h : At O w H a) : a.n ≤ 65536 := by
  obtain ⟨ba, bt, rv, s, h1, h2, h3, h4, h5⟩ := h
  rw [h5.n]; exact h3.small
theorem At.acts (h : At O w H a) {i : Nat} (hi : i < a.n) : 0 ≤ a.act i ∧ a.act i ≤ 1099511627776 := by
  obtain ⟨ba, bt, rv, s, h1, h2, h3, h4, h5⟩ := h
  rw [h5.n] at hi
  rw [h5.act i hi]; exact h3.acts i hi

def putE (a : Ab) (i : Int) : Int := if isB a.n i then 0 else 2
def putA (a : Ab) (i : Int) : Ab := if isB a.n i then a.put i.toNat else a
def bumpG (a : Ab) (i d : Int) : Bool := isB a.n i && decide (0 ≤ d) && decide (d ≤ 1099511627776)
def bumpE (a : Ab) (i d : Int) : Int := if bumpG a i d then 0 else 2
def bumpA (a : Ab) (i d : Int) : Ab := if bumpG a i d then a.bump i.toNat d else a
def actA (a : Ab) (i : Int) : Int := if isB a.n i then a.act i.toNat else 0
def hasA (a : Ab) (i : Int) : Bool := isB a.n i && a.inn i.toNat
open Classical in
/-- what is left when the first is taken -/
noncomputable def popA (a : Ab) : Ab := if h : ∃ k, First a k then a.out h.choose else a
theorem popA_first {k : Nat} (h : First a k) : popA a = a.out k := by
  unfold popA
  rw [dif_pos ⟨k, h⟩, (Exists.choose_spec (⟨k, h⟩ : ∃ k, First a k)).unique h]
theorem popA_empty (h : Empty a) : popA a = a := by
  unfold popA
  rw [dif_neg (fun ⟨k, hk⟩ => h.no_first hk)]
/-- what Pop hands back -/
def PopE (a : Ab) (e : Ending) : Prop := (∃ k, First a k ∧ e = .returned (.tuple #[.int .i64 k, .bool true])) ∨ (Empty a ∧ e = .returned (.tuple #[.int .i64 0, .bool false]))

theorem ptr_put (h : At O w H a) (i : Int) :
    Calls Try.prog 14 #[.pointer (some ⟨H, 0, none⟩), .int .i64 i] w fun e w' => e = .returned (.int .i64 (putE a i)) ∧ At (more O w w') w' H (putA a i) ∧ Keeps O w w' := by
  obtain ⟨ba, bt, rv, s, h1, h2, h3, h4, h5⟩ := h
  have hn : a.n = s.n := h5.n
  unfold putE putA
  rw [hn]
  cases hb : isB s.n i with
  | false =>
    refine (put_bad h1 i hb).mono ?_
    rintro e w' ⟨rfl, rfl⟩
    exact ⟨rfl, ⟨ba, bt, rv, s, h1.mono (fun _ h => .inl h), .inl h2, h3, h4, h5⟩, Keeps.refl _ _⟩
  | true =>
    obtain ⟨hi0, hi1⟩ := isB_iff.1 hb
    obtain ⟨k, rfl⟩ := Int.eq_ofNat_of_zero_le hi0
    have hk : k < s.n := by omega
    simp only [if_true, Int.toNat_natCast]
    rcases h3.place k hk with hp | ⟨hp, _⟩
    · refine (put_new h1 h3 h4 k hk hp).mono ?_
      rintro e w' ⟨rfl, rv', s', m1, m2, m3, m4, m5⟩
      exact ⟨rfl, ⟨ba, bt, rv', s', m1, .inl h2, m2, m3, (m4.eq.symm.trans (abOf_put s k).symm).trans (h5.put k)⟩, m5⟩
    · refine (put_again h1 k hk hp).mono ?_
      rintro e w' ⟨rfl, rfl⟩
      refine ⟨rfl, ⟨ba, bt, rv, s, h1.mono (fun _ h => .inl h), .inl h2, h3, h4, h5.trans ⟨rfl, fun _ _ => rfl, fun j hj => ?_⟩⟩, Keeps.refl _ _⟩
      show upd a.inn k true j = a.inn j
      by_cases e : j = k
      · subst e; rw [upd_self, h5.inn j hk]; exact (decide_eq_true hp).symm
      · rw [upd_other _ _ e]
theorem ptr_bump (h : At O w H a) (i d : Int) :
    Calls Try.prog 15 #[.pointer (some ⟨H, 0, none⟩), .int .i64 i, .int .i64 d] w fun e w' => e = .returned (.int .i64 (bumpE a i d)) ∧ At O w' H (bumpA a i d) ∧ Keeps O w w' := by
  obtain ⟨ba, bt, rv, s, h1, h2, h3, h4, h5⟩ := h
  have hn : a.n = s.n := h5.n
  unfold bumpE bumpA bumpG
  rw [hn]
  cases hb : (isB s.n i && decide (0 ≤ d) && decide (d ≤ 1099511627776)) with
  | false =>
    refine (bump_bad h1 i d ?_).mono ?_
    · simp only [Bool.and_eq_false_iff, decide_eq_false_iff_not] at hb
      rcases hb with (h | h) | h
      · exact .inl h
      · exact .inr (.inl (by omega))
      · exact .inr (.inr (by omega))
    · rintro e w' ⟨rfl, rfl⟩
      exact ⟨rfl, ⟨ba, bt, rv, s, h1, h2, h3, h4, h5⟩, Keeps.refl _ _⟩
  | true =>
    simp only [Bool.and_eq_true, decide_eq_true_eq] at hb
    obtain ⟨⟨hb, hd0⟩, hd1⟩ := hb
    obtain ⟨hi0, hi1⟩ := isB_iff.1 hb
    obtain ⟨k, rfl⟩ := Int.eq_ofNat_of_zero_le hi0
    have hk : k < s.n := by omega
    simp only [if_true, Int.toNat_natCast]
    refine (bump_any h1 h2 h3 h4 k d hk hd0 hd1).mono ?_
    rintro e w' ⟨rfl, s', m1, m2, m3, m4, m5⟩
    exact ⟨rfl, ⟨ba, bt, rv, s', m1, h2, m2, m3, (m4.eq.symm.trans (abOf_bump s k d).symm).trans (h5.bump k hk d)⟩, m5⟩
theorem ptr_halve (h : At O w H a) :
    Calls Try.prog 13 #[.pointer (some ⟨H, 0, none⟩)] w fun e w' => e = .returned (.tuple #[]) ∧ At O w' H a.halve ∧ Keeps O w w' := by
  obtain ⟨ba, bt, rv, s, h1, h2, h3, h4, h5⟩ := h
  refine (halve_any h1 h2 h3 h4).mono ?_
  rintro e w' ⟨rfl, s', m1, m2, m3, m4, m5⟩
  exact ⟨rfl, ⟨ba, bt, rv, s', m1, h2, m2, m3, (m4.eq.symm.trans (abOf_halve s).symm).trans h5.halve⟩, m5⟩
theorem ptr_pop (h : At O w H a) :
    Calls Try.prog 16 #[.pointer (some ⟨H, 0, none⟩)] w fun e w' => PopE a e ∧ At O w' H (popA a) ∧ Keeps O w w' := by
  obtain ⟨ba, bt, rv, s, h1, h2, h3, h4, h5⟩ := h
  by_cases hm : s.m = 0
  · have he := (abOf_empty h3 hm).of_eq h5
    refine (pop_none h1 hm).mono ?_
    rintro e w' ⟨rfl, rfl⟩
    exact ⟨.inr ⟨he, rfl⟩, by rw [popA_empty he]; exact ⟨ba, bt, rv, s, h1, h2, h3, h4, h5⟩, Keeps.refl _ _⟩
  · have hm0 : 0 < s.m := by omega
    have hF := (abOf_first h3 h4 hm0).of_eq h5
    refine (pop_any h1 h3 h4 hm0).mono ?_
    rintro e w' ⟨rfl, rv', s', m1, m2, m3, m4, m5⟩
    exact ⟨.inl ⟨_, hF, rfl⟩, by rw [popA_first hF]; exact ⟨ba, bt, rv', s', m1, h2, m2, m3, (m4.eq.symm.trans (abOf_pop h3 hm0).symm).trans (h5.out _)⟩, m5⟩
theorem ptr_len (h : At O w H a) :
    Calls Try.prog 10 #[.pointer (some ⟨H, 0, none⟩)] w fun e w' => e = .returned (.int .i64 a.len) ∧ w = w' := by
  obtain ⟨ba, bt, rv, s, h1, h2, h3, h4, h5⟩ := h
  rw [h5.len, abOf_len h3]; exact len_any h1
theorem ptr_act (h : At O w H a) (i : Int) :
    Calls Try.prog 11 #[.pointer (some ⟨H, 0, none⟩), .int .i64 i] w fun e w' => e = .returned (.int .i64 (actA a i)) ∧ w = w' := by
  obtain ⟨ba, bt, rv, s, h1, h2, h3, h4, h5⟩ := h
  have hn : a.n = s.n := h5.n
  have he : actA a i = if isB s.n i then s.act i.toNat else 0 := by
    unfold actA; rw [hn]
    cases hb : isB s.n i with
    | false => rfl
    | true =>
      obtain ⟨hi0, hi1⟩ := isB_iff.1 hb
      exact h5.act _ (show i.toNat < s.n by omega)
  rw [he]; exact act_any h1 i
theorem ptr_has (h : At O w H a) (i : Int) :
    Calls Try.prog 12 #[.pointer (some ⟨H, 0, none⟩), .int .i64 i] w fun e w' => e = .returned (.bool (hasA a i)) ∧ w = w' := by
  obtain ⟨ba, bt, rv, s, h1, h2, h3, h4, h5⟩ := h
  have hn : a.n = s.n := h5.n
  have he : hasA a i = (isB s.n i && decide (0 ≤ s.pos i.toNat)) := by
    unfold hasA; rw [hn]
    cases hb : isB s.n i with
    | false => rfl
    | true =>
      obtain ⟨hi0, hi1⟩ := isB_iff.1 hb
      exact h5.inn _ (show i.toNat < s.n by omega)
  rw [he]; exact hasB_any h1 i
end
def newA (n : Nat) : Ab := { n := n, act := fun _ => 0, inn := fun _ => false }
theorem ptr_new (n : Nat) (hn : n ≤ 65536) (w : World) :
    Calls Try.prog 17 #[.int .i64 n] w fun e w' => ∃ H, e = .returned (.pointer (some ⟨H, 0, none⟩)) ∧ At (fun k => w.heap.size ≤ k) w' H (newA n) ∧ Below w.heap.size w w' := by
  refine (new_any n hn w).mono ?_
  rintro e w' ⟨H, rfl, ba, bt, m1, m2, m3⟩
  have hO : ∀ k, more (fun _ => False) w w' k → w.heap.size ≤ k := fun k hk => by rcases hk with h | ⟨h, _⟩; exact h.elim; exact h
  exact ⟨H, rfl, ⟨ba, bt, _, _, m1.mono hO, hO _ m2, newSt_fit hn, newSt_ord n, ⟨rfl, fun _ _ => rfl, fun _ _ => rfl⟩⟩, m3⟩

/- the contracts, where all that the heap owns lies from B on -/
section
variable {B : Nat} {w w' : World} {H : Nat} {a : Ab}
def AtB (B : Nat) (w : World) (H : Nat) (a : Ab) : Prop := At (fun k => B ≤ k) w H a ∧ B ≤ w.heap.size
theorem AtB.step {a' : Ab} (h : AtB B w H a) (h1 : At (more (fun k => B ≤ k) w w') w' H a') (h2 : Keeps (fun k => B ≤ k) w w') : AtB B w' H a' ∧ Below B w w' :=
  ⟨⟨h1.mono (fun k hk => by rcases hk with h3 | ⟨h3, _⟩; exact h3; have := h.2; omega), Nat.le_trans h.2 h2.size⟩, h2.below (fun _ h => h) h.2⟩
theorem AtB.below (h : AtB B w H a) (hb : Below w.heap.size w w') : AtB B w' H a := ⟨h.1.below hb, Nat.le_trans h.2 hb.size⟩
theorem AtB.mono {B' : Nat} (h : AtB B w H a) (hB : B' ≤ B) : AtB B' w H a := ⟨h.1.mono (fun _ hk => Nat.le_trans hB hk), Nat.le_trans hB h.2⟩
theorem b_new (n : Nat) (hn : n ≤ 65536) (w : World) :
    Calls Try.prog 17 #[.int .i64 n] w fun e w' => ∃ H, e = .returned (.pointer (some ⟨H, 0, none⟩)) ∧ AtB w.heap.size w' H (newA n) ∧ Below w.heap.size w w' :=
  (ptr_new n hn w).mono fun _ _ ⟨H, h1, h2, h3⟩ => ⟨H, h1, ⟨h2, h3.size⟩, h3⟩
theorem b_put (h : AtB B w H a) (i : Int) :
    Calls Try.prog 14 #[.pointer (some ⟨H, 0, none⟩), .int .i64 i] w fun e w' => e = .returned (.int .i64 (putE a i)) ∧ AtB B w' H (putA a i) ∧ Below B w w' :=
  (ptr_put h.1 i).mono fun _ _ ⟨h1, h2, h3⟩ => ⟨h1, h.step h2 h3⟩
theorem b_bump (h : AtB B w H a) (i d : Int) :
    Calls Try.prog 15 #[.pointer (some ⟨H, 0, none⟩), .int .i64 i, .int .i64 d] w fun e w' => e = .returned (.int .i64 (bumpE a i d)) ∧ AtB B w' H (bumpA a i d) ∧ Below B w w' :=
  (ptr_bump h.1 i d).mono fun _ _ ⟨h1, h2, h3⟩ => ⟨h1, h.step (h2.mono fun _ h => .inl h) h3⟩
theorem b_halve (h : AtB B w H a) :
    Calls Try.prog 13 #[.pointer (some ⟨H, 0, none⟩)] w fun e w' => e = .returned (.tuple #[]) ∧ AtB B w' H a.halve ∧ Below B w w' :=
  (ptr_halve h.1).mono fun _ _ ⟨h1, h2, h3⟩ => ⟨h1, h.step (h2.mono fun _ h => .inl h) h3⟩
theorem b_pop (h : AtB B w H a) :
    Calls Try.prog 16 #[.pointer (some ⟨H, 0, none⟩)] w fun e w' => PopE a e ∧ AtB B w' H (popA a) ∧ Below B w w' :=
  (ptr_pop h.1).mono fun _ _ ⟨h1, h2, h3⟩ => ⟨h1, h.step (h2.mono fun _ h => .inl h) h3⟩
end
end Go.Proofs.Ytdelfgilcfoaoaa.Hp
